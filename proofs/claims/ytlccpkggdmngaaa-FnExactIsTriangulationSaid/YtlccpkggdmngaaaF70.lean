/- A Go function as a plain Lean function, and the proof that Go's call comes to its answer. No conditions but those in the theorem. Written by gen.py (a program of this session over the kit's print). -/
-- SHRUNK by pack.py
import Derived.Test.YtlccpkggdmngaaaG0
import Derived.Test.YtlccpkggdmngaaaE27
import Derived.Test.YtlccpkggdmngaaaFA
import Derived.Test.YtlccpkggdmngaaaF103
namespace Go.Proofs.Ytlccpkggdmngaaa.G
open Go.RowKit Go.Proofs.YtlccpkggdmngaaaW.PrintWords Go.Proofs.YtlccpkggdmngaaaW.PrintLast Go.Proofs.YtlccpkggdmngaaaW.PrintMore Go.Proofs.YtlccpkggdmngaaaW.PrintBits
attribute [local go_sem] max2_int min2_int max_two min_two max_three min_three max_four min_four   -- for this text's walks alone
set_option linter.unusedVariables false
set_option linter.unusedSimpArgs false

attribute [local go_sem high] eqA27
/-! ### spec_PolygonOk: function 70 -/
mutual
def spec_PolygonOk.l0 : Nat → List (S27) → List (S27) → Int → Int → Option (Bool)
 | 0, _, _, _, _ => none
 | k + 1, x0, x14, x15, x16 => if x16 < x15 then (if 0 ≤ x16 then (if x16 < (x14.length : Int) then ((spec_PointOk.f ((rd_T27 x14 x16).f0) ((rd_T27 x14 x16).f1)).bind fun t104 => (if t104 = true then (spec_PolygonOk.l0 k x0 x14 x15 (wrap64 (x16 + 1))) else (some false))) else (none)) else (none)) else (spec_PolygonOk.l1 k x0 (x0.length : Int) (x0.length : Int) 0)
def spec_PolygonOk.l1 : Nat → List (S27) → Int → Int → Int → Option (Bool)
 | 0, _, _, _, _ => none
 | k + 1, x0, x5, x27, x28 => if x28 < x27 then (if 0 ≤ x28 then (if x28 < (x0.length : Int) then (if x5 = 0 then (none) else (if 0 ≤ (Int.tmod (wrap64 (x28 + 1)) x5) then (if (Int.tmod (wrap64 (x28 + 1)) x5) < (x0.length : Int) then (if (((rd_T27 x0 x28).f0) == ((rd_T27 x0 (Int.tmod (wrap64 (x28 + 1)) x5)).f0) && (((rd_T27 x0 x28).f1) == ((rd_T27 x0 (Int.tmod (wrap64 (x28 + 1)) x5)).f1))) = true then (some false) else (spec_PolygonOk.l1 k x0 x5 x27 (wrap64 (x28 + 1)))) else (none)) else (none))) else (none)) else (none)) else (spec_PolygonOk.l2 k x0 x5 (x0.length : Int) 0)
def spec_PolygonOk.l2 : Nat → List (S27) → Int → Int → Int → Option (Bool)
 | 0, _, _, _, _ => none
 | k + 1, x0, x5, x45, x46 => if x46 < x45 then (spec_PolygonOk.l3 k x0 x5 x46 (wrap64 (x46 + 1)) x45 x46) else (some true)
def spec_PolygonOk.l3 : Nat → List (S27) → Int → Int → Int → Int → Int → Option (Bool)
 | 0, _, _, _, _, _, _ => none
 | k + 1, x0, x5, x7, x8, x45, x46 => if x8 < x5 then (if 0 ≤ x7 then (if x7 < (x0.length : Int) then (if x5 = 0 then (none) else (if 0 ≤ (Int.tmod (wrap64 (x7 + 1)) x5) then (if (Int.tmod (wrap64 (x7 + 1)) x5) < (x0.length : Int) then (if 0 ≤ x8 then (if x8 < (x0.length : Int) then (if 0 ≤ (Int.tmod (wrap64 (x8 + 1)) x5) then (if (Int.tmod (wrap64 (x8 + 1)) x5) < (x0.length : Int) then ((spec_l02Meet.f ((rd_T27 x0 x7).f0) ((rd_T27 x0 x7).f1) ((rd_T27 x0 (Int.tmod (wrap64 (x7 + 1)) x5)).f0) ((rd_T27 x0 (Int.tmod (wrap64 (x7 + 1)) x5)).f1) ((rd_T27 x0 x8).f0) ((rd_T27 x0 x8).f1) ((rd_T27 x0 (Int.tmod (wrap64 (x8 + 1)) x5)).f0) ((rd_T27 x0 (Int.tmod (wrap64 (x8 + 1)) x5)).f1)).bind fun t111 => (if x8 = (wrap64 (x7 + 1)) then (spec_PolygonOk.j4 k x0 x5 x7 x8 t111 x45 x46 true) else (if x7 = 0 then (spec_PolygonOk.j4 k x0 x5 x7 x8 t111 x45 x46 (x8 == (wrap64 (x5 - 1)))) else (spec_PolygonOk.j4 k x0 x5 x7 x8 t111 x45 x46 false)))) else (none)) else (none)) else (none)) else (none)) else (none)) else (none))) else (none)) else (none)) else (spec_PolygonOk.l2 k x0 x5 x45 (wrap64 (x46 + 1)))
def spec_PolygonOk.j4 : Nat → List (S27) → Int → Int → Int → Int → Int → Int → Bool → Option (Bool)
 | 0, _, _, _, _, _, _, _, _ => none
 | k + 1, x0, x5, x7, x8, x9, x45, x46, x92 => if x92 = true then (if x9 = 1 then (spec_PolygonOk.l3 k x0 x5 x7 (wrap64 (x8 + 1)) x45 x46) else (some false)) else (if x9 = 0 then (spec_PolygonOk.l3 k x0 x5 x7 (wrap64 (x8 + 1)) x45 x46) else (some false))
end
def spec_PolygonOk.f (k : Nat) (l0 : List (S27)) : Option (Bool) := (spec_l01In.f (l0.length : Int) 3 10).bind fun t101 => (if t101 = true then (spec_PolygonOk.l0 k l0 l0 (l0.length : Int) 0) else (some false))
theorem spec_PolygonOk.mono_l : ∀ k, (∀ y0 y1 y2 y3, LeO (spec_PolygonOk.l0 k y0 y1 y2 y3) (spec_PolygonOk.l0 (k + 1) y0 y1 y2 y3)) ∧ (∀ y0 y1 y2 y3, LeO (spec_PolygonOk.l1 k y0 y1 y2 y3) (spec_PolygonOk.l1 (k + 1) y0 y1 y2 y3)) ∧ (∀ y0 y1 y2 y3, LeO (spec_PolygonOk.l2 k y0 y1 y2 y3) (spec_PolygonOk.l2 (k + 1) y0 y1 y2 y3)) ∧ (∀ y0 y1 y2 y3 y4 y5, LeO (spec_PolygonOk.l3 k y0 y1 y2 y3 y4 y5) (spec_PolygonOk.l3 (k + 1) y0 y1 y2 y3 y4 y5)) ∧ (∀ y0 y1 y2 y3 y4 y5 y6 y7, LeO (spec_PolygonOk.j4 k y0 y1 y2 y3 y4 y5 y6 y7) (spec_PolygonOk.j4 (k + 1) y0 y1 y2 y3 y4 y5 y6 y7))
 | 0 => ⟨fun _ _ _ _ r h => by simp [spec_PolygonOk.l0] at h, fun _ _ _ _ r h => by simp [spec_PolygonOk.l1] at h, fun _ _ _ _ r h => by simp [spec_PolygonOk.l2] at h, fun _ _ _ _ _ _ r h => by simp [spec_PolygonOk.l3] at h, fun _ _ _ _ _ _ _ _ r h => by simp [spec_PolygonOk.j4] at h⟩
 | k + 1 => by
  obtain ⟨ih0, ih1, ih2, ih3, ih4⟩ := spec_PolygonOk.mono_l k
  refine ⟨?_, ?_, ?_, ?_, ?_⟩
  ·intro y0 y1 y2 y3
   unfold spec_PolygonOk.l0
   repeat' first
   | (with_reducible exact ih0 _ _ _ _)
   | (with_reducible exact ih1 _ _ _ _)
   | (with_reducible exact ih2 _ _ _ _)
   | (with_reducible exact ih3 _ _ _ _ _ _)
   | (with_reducible exact ih4 _ _ _ _ _ _ _ _)
   | (with_reducible exact LeO.refl _)
   | (with_reducible exact LeO.none _)
   | (with_reducible refine LeO.ite ?_ ?_)
   | (with_reducible refine LeO.bind ?_ (fun _ => ?_))
   | exact ih0 _ _ _ _
   | exact ih1 _ _ _ _
   | exact ih2 _ _ _ _
   | exact ih3 _ _ _ _ _ _
   | exact ih4 _ _ _ _ _ _ _ _
   | exact LeO.none _
   | refine LeO.ite ?_ ?_
   | refine LeO.bind ?_ (fun _ => ?_)
  ·intro y0 y1 y2 y3
   unfold spec_PolygonOk.l1
   repeat' first
   | (with_reducible exact ih0 _ _ _ _)
   | (with_reducible exact ih1 _ _ _ _)
   | (with_reducible exact ih2 _ _ _ _)
   | (with_reducible exact ih3 _ _ _ _ _ _)
   | (with_reducible exact ih4 _ _ _ _ _ _ _ _)
   | (with_reducible exact LeO.refl _)
   | (with_reducible exact LeO.none _)
   | (with_reducible refine LeO.ite ?_ ?_)
   | (with_reducible refine LeO.bind ?_ (fun _ => ?_))
   | exact ih0 _ _ _ _
   | exact ih1 _ _ _ _
   | exact ih2 _ _ _ _
   | exact ih3 _ _ _ _ _ _
   | exact ih4 _ _ _ _ _ _ _ _
   | exact LeO.none _
   | refine LeO.ite ?_ ?_
   | refine LeO.bind ?_ (fun _ => ?_)
  ·intro y0 y1 y2 y3
   unfold spec_PolygonOk.l2
   repeat' first
   | (with_reducible exact ih0 _ _ _ _)
   | (with_reducible exact ih1 _ _ _ _)
   | (with_reducible exact ih2 _ _ _ _)
   | (with_reducible exact ih3 _ _ _ _ _ _)
   | (with_reducible exact ih4 _ _ _ _ _ _ _ _)
   | (with_reducible exact LeO.refl _)
   | (with_reducible exact LeO.none _)
   | (with_reducible refine LeO.ite ?_ ?_)
   | (with_reducible refine LeO.bind ?_ (fun _ => ?_))
   | exact ih0 _ _ _ _
   | exact ih1 _ _ _ _
   | exact ih2 _ _ _ _
   | exact ih3 _ _ _ _ _ _
   | exact ih4 _ _ _ _ _ _ _ _
   | exact LeO.none _
   | refine LeO.ite ?_ ?_
   | refine LeO.bind ?_ (fun _ => ?_)
  ·intro y0 y1 y2 y3 y4 y5
   unfold spec_PolygonOk.l3
   repeat' first
   | (with_reducible exact ih0 _ _ _ _)
   | (with_reducible exact ih1 _ _ _ _)
   | (with_reducible exact ih2 _ _ _ _)
   | (with_reducible exact ih3 _ _ _ _ _ _)
   | (with_reducible exact ih4 _ _ _ _ _ _ _ _)
   | (with_reducible exact LeO.refl _)
   | (with_reducible exact LeO.none _)
   | (with_reducible refine LeO.ite ?_ ?_)
   | (with_reducible refine LeO.bind ?_ (fun _ => ?_))
   | exact ih0 _ _ _ _
   | exact ih1 _ _ _ _
   | exact ih2 _ _ _ _
   | exact ih3 _ _ _ _ _ _
   | exact ih4 _ _ _ _ _ _ _ _
   | exact LeO.none _
   | refine LeO.ite ?_ ?_
   | refine LeO.bind ?_ (fun _ => ?_)
  ·intro y0 y1 y2 y3 y4 y5 y6 y7
   unfold spec_PolygonOk.j4
   repeat' first
   | (with_reducible exact ih0 _ _ _ _)
   | (with_reducible exact ih1 _ _ _ _)
   | (with_reducible exact ih2 _ _ _ _)
   | (with_reducible exact ih3 _ _ _ _ _ _)
   | (with_reducible exact ih4 _ _ _ _ _ _ _ _)
   | (with_reducible exact LeO.refl _)
   | (with_reducible exact LeO.none _)
   | (with_reducible refine LeO.ite ?_ ?_)
   | (with_reducible refine LeO.bind ?_ (fun _ => ?_))
   | exact ih0 _ _ _ _
   | exact ih1 _ _ _ _
   | exact ih2 _ _ _ _
   | exact ih3 _ _ _ _ _ _
   | exact ih4 _ _ _ _ _ _ _ _
   | exact LeO.none _
   | refine LeO.ite ?_ ?_
   | refine LeO.bind ?_ (fun _ => ?_)
theorem spec_PolygonOk.mono : ∀ a0 k, LeO (spec_PolygonOk.f k a0) (spec_PolygonOk.f (k + 1) a0) := by
 intro a0 k
 obtain ⟨ih0, ih1, ih2, ih3, ih4⟩ := spec_PolygonOk.mono_l k
 unfold spec_PolygonOk.f
 repeat' first
   | (with_reducible exact ih0 _ _ _ _)
   | (with_reducible exact ih1 _ _ _ _)
   | (with_reducible exact ih2 _ _ _ _)
   | (with_reducible exact ih3 _ _ _ _ _ _)
   | (with_reducible exact ih4 _ _ _ _ _ _ _ _)
   | (with_reducible exact LeO.refl _)
   | (with_reducible exact LeO.none _)
   | (with_reducible refine LeO.ite ?_ ?_)
   | (with_reducible refine LeO.bind ?_ (fun _ => ?_))
   | exact ih0 _ _ _ _
   | exact ih1 _ _ _ _
   | exact ih2 _ _ _ _
   | exact ih3 _ _ _ _ _ _
   | exact ih4 _ _ _ _ _ _ _ _
   | exact LeO.none _
   | refine LeO.ite ?_ ?_
   | refine LeO.bind ?_ (fun _ => ?_)
def spec_PolygonOk.T13 : Bool × List (List Nat × List Nat) := (true, [([], []), ([], []), ([0, 1], [0, 1]), ([2], [2]), ([], []), ([], []), ([5], [5]), ([], []), ([6, 7], [6, 7]), ([4, 8], [4, 8]), ([9], [9]), ([3, 10], [3, 10])])
def spec_PolygonOk.B13 : List Nat := [0, 0, 3, 7, 0, 0, 32, 0, 224, 496, 1008, 2047]
theorem spec_PolygonOk.tab13 : rtab .any (opsOf Try.f70 13) = spec_PolygonOk.T13 := by kernel_rfl
theorem spec_PolygonOk.bits13 : waitsOk spec_PolygonOk.T13.2 spec_PolygonOk.B13 = true := by kernel_rfl
def spec_PolygonOk.T22 : Bool × List (List Nat × List Nat) := (true, [([], []), ([], []), ([0, 1], [0, 1]), ([2], [2]), ([], []), ([], []), ([5], [5]), ([], []), ([6, 7], [6, 7]), ([4, 8], [4, 8]), ([9], [9]), ([], []), ([], []), ([11, 12], [11, 12]), ([13], [13]), ([], []), ([], []), ([16], [16]), ([], []), ([17, 18], [17, 18]), ([15, 19], [15, 19]), ([20], [20]), ([3, 10, 14, 21], [3, 10, 14, 21]), ([22, 22, 0, 1, 2, 3, 4, 5, 6, 7, 8, 9, 10, 11, 12, 13, 14, 15, 16, 17, 18, 19, 20, 21, 22], [22])])
def spec_PolygonOk.B22 : List Nat := [0, 0, 3, 7, 0, 0, 32, 0, 224, 496, 1008, 0, 0, 6144, 14336, 0, 0, 65536, 0, 458752, 1015808, 2064384, 4194303, 8388607]
theorem spec_PolygonOk.tab22 : rtab .any (opsOf Try.f70 22) = spec_PolygonOk.T22 := by kernel_rfl
theorem spec_PolygonOk.bits22 : waitsOk spec_PolygonOk.T22.2 spec_PolygonOk.B22 = true := by kernel_rfl
set_option maxHeartbeats 8000000 in
set_option maxRecDepth 100000 in
theorem spec_PolygonOk.calls (k : Nat) (A0 : Option Addr) (c0 : Nat) (l0 : List (S27)) (r : Bool) (w : World) (hr0 : Kd.C k27 w A0 l0.length l0) (hc0 : l0.length ≤ c0) (h : spec_PolygonOk.f k l0 = some r) :
  Calls Try.prog 70 #[.slice A0 l0.length c0] w fun e w' => e = .returned (.bool r) ∧ Below w.heap.size w w' := by
 have hu27 := Try.underlying27; have HR0 := Ak hr0; have HC0 := Ak hc0; clear hr0 hc0; have HB := Ak (Below.refl w.heap.size w); have H : ((spec_l01In.f (l0.length : Int) 3 10).bind fun t101 => (if t101 = true then (spec_PolygonOk.l0 k l0 l0 (l0.length : Int) 0) else (some false))) = some r := h; clear h; replace H := Option.bind_eq_some_iff.mp H; obtain ⟨t101, A20, H⟩ := H; replace H : (if t101 = true then (spec_PolygonOk.l0 k l0 l0 (l0.length : Int) 0) else (some false)) = some r := H; have A2 := Ak A20; clear A20
 by_cases c3 : t101 = true
 ·subst c3; have H1 : (spec_PolygonOk.l0 k l0 l0 (l0.length : Int) 0) = some r := by rw [if_pos rfl] at H; exact H
  clear H; have H := H1; clear H1; have H' := Ak H; clear H
  go_enter Try.func70, Try.ntmps70
  go_wp2_with (first | ((with_reducible refine gate_callee (f := 101) rfl ?_); refine goesL_ (some 12) rfl rfl Try.func101 (by kernel_rfl) rfl #[.int .i64 (l0.length : Int), .int .i64 3, .int .i64 10] rfl (by (try simp only [List.map_toArray, List.map_cons, List.map_nil]); first | done | rfl | (simp only [List.length_drop, List.length_take]; rfl)) ?_; (with_reducible refine (spec_l01In.calls (l0.length : Int) 3 10 true _ A2.out).mono ?_); rintro e w' ⟨rfl, ⟨nd, rfl⟩⟩; refine ⟨_, rfl, ?_⟩))
  go_loopg [16] k (fun kq v16 w' => ∃ (x16_1 : Int), v16 = .int .i64 x16_1 ∧ Aside0 (spec_PolygonOk.l0 kq l0 l0 (l0.length : Int) x16_1 = some r) ∧ Aside0 (kq ≤ k) ∧ Aside0 (Below w.heap.size w w'))
  case atStart => exact ⟨(0), (by first | rfl | (simp; done) | (simp [*]; done)), H', ⟨Nat.le_refl _⟩, ⟨by repeat (first | (with_reducible first | exact HB.out | apply bA | apply bD | apply bE) | exact HB.out)⟩⟩
  case round =>
   clear H'
   try clear c1
   try clear p2
   try clear c3
   obtain ⟨x16_1, rfl, HA, HK1, HB⟩ := hrel
   cases gk with
   | zero => exact absurd HA.out (by simp [spec_PolygonOk.l0])
   | succ k1 =>
    have H := HA.out; clear HA; simp only [spec_PolygonOk.l0] at H
    by_cases c4 : x16_1 < (l0.length : Int)
    ·rw [if_pos c4] at H; have c4b0 : decide (x16_1 < (l0.length : Int)) = true := decide_eq_true c4; clear c4
     by_cases c5 : 0 ≤ x16_1
     ·rw [if_pos c5] at H; have c5b0 : decide (0 ≤ x16_1) = true := decide_eq_true c5; clear c5
      by_cases c6 : x16_1 < (l0.length : Int)
      ·rw [if_pos c6] at H; have c6b0 : decide (x16_1 < (l0.length : Int)) = true := decide_eq_true c6; clear c6; replace H := Option.bind_eq_some_iff.mp H; obtain ⟨t104, A70, H⟩ := H; replace H : (if t104 = true then (spec_PolygonOk.l0 k1 l0 l0 (l0.length : Int) (wrap64 (x16_1 + 1))) else (some false)) = some r := H; have A7 := Ak A70; clear A70
       by_cases c8 : t104 = true
       ·subst c8; have H1 : (spec_PolygonOk.l0 k1 l0 l0 (l0.length : Int) (wrap64 (x16_1 + 1))) = some r := by rw [if_pos rfl] at H; exact H
        clear H; have H := H1; clear H1; have H' := Ak H; clear H; have p102 : 0 ≤ (x16_1 : Int) := of_decide_eq_true (by first | (with_reducible assumption) | assumption); have q102 : x16_1 < (l0.length : Int) := of_decide_eq_true (by first | (with_reducible assumption) | assumption); obtain ⟨ad102, e102, hx102_0, hx102_1⟩ := at_T27 HR0.out x16_1 p102 q102; cases e102; replace hx102_0 := cB HB.out hx102_0; replace hx102_1 := cB HB.out hx102_1; replace p102 := eq_true p102; replace q102 := eq_true q102
        go_wp2_with (first | ((with_reducible refine gate_dst (N := 4) rfl ?_); refine box_event ?hg (N := 4) ?hd (cs := #[.int .i64 0, .int .i64 0]) (t := 27) ?hr ?_; (case hd | hg => rfl); (case hr => first | (go_simp; done) | (go_simp; rfl)); intro gb103 hg w9 hbox hb; have n0_ := Ak (below_step (by repeat (first | exact HB.out | apply bA | apply bD | apply bE)) hb); have n1_ := Ak (hbox); have n2_ := Ak ((by rw [hg]; exact (below_size (by repeat (first | exact HB.out | apply bA | apply bD | apply bE))) : w.heap.size ≤ gb103)); have n3_ := n2_; clear HB; have HB := n0_; have BK103 := n1_; have GW103 := n2_; have GE103 := n3_; clear n0_ n1_ n2_ n3_; clear hb hbox hg; have hcz10_0 := b0 BK103.out; have hcz10_1 := b1 BK103.out; have hfz10_0 := blk_frozen BK103.out 0; have hfz10_1 := blk_frozen BK103.out 1) | ((with_reducible refine gate_callee (f := 102) rfl ?_); refine goesL_ (some 21) rfl rfl Try.func102 (by kernel_rfl) rfl #[.agg #[.int .i64 ((rd_T27 l0 x16_1).f0), .int .i64 ((rd_T27 l0 x16_1).f1)]] rfl (by (try simp only [List.map_toArray, List.map_cons, List.map_nil]); first | done | rfl | (simp only [List.length_drop, List.length_take]; rfl)) ?_; (with_reducible refine (spec_PointOk.calls ((rd_T27 l0 x16_1).f0) ((rd_T27 l0 x16_1).f1) true _ A7.out).mono ?_); rintro e w11 ⟨rfl, hb⟩; refine ⟨_, rfl, ?_⟩; have n0_ := Ak (blk_below (g := gb103) (o := .cells #[.int .i64 ((rd_T27 l0 x16_1).f0), .int .i64 ((rd_T27 l0 x16_1).f1)] 27 (0, 0)) (by refine blk_put (cs := #[.int .i64 ((rd_T27 l0 x16_1).f0), .int .i64 0]) ?_ 1 _ rfl; refine blk_put (cs := #[.int .i64 0, .int .i64 0]) ?_ 0 _ rfl; exact BK103.out) hb); have n1_ := Ak (below_step (by repeat (first | exact HB.out | apply bA | apply bD | apply bE | refine below_set ?_ GE103.out)) hb); clear BK103; clear HB; have BK103 := n0_; have HB := n1_; clear n0_ n1_; (try clear hb); (try clear hb2); (try clear hk); (try clear hi)))
        go_roundg k1
        case measure => have := HK1.out; omega
        case rel => exact ⟨(wrap64 (x16_1 + 1)), (by first | rfl | (simp; done) | (simp [*]; done)), H', ⟨by have := HK1.out; omega⟩, ⟨by repeat (first | (with_reducible first | exact HB.out | apply bA | apply bD | apply bE | refine below_set ?_ GE103.out) | exact HB.out)⟩⟩
       ·replace c8 := Bool.eq_false_iff.mpr c8; subst c8; have H1 : (some false) = some r := by rw [if_neg (show ¬ (false = true) by decide)] at H; exact H
        clear H; have H := H1; clear H1; obtain rfl := Option.some.inj H; have p102 : 0 ≤ (x16_1 : Int) := of_decide_eq_true (by first | (with_reducible assumption) | assumption); have q102 : x16_1 < (l0.length : Int) := of_decide_eq_true (by first | (with_reducible assumption) | assumption); obtain ⟨ad102, e102, hx102_0, hx102_1⟩ := at_T27 HR0.out x16_1 p102 q102; cases e102; replace hx102_0 := cB HB.out hx102_0; replace hx102_1 := cB HB.out hx102_1; replace p102 := eq_true p102; replace q102 := eq_true q102
        go_wp2_with (first | ((with_reducible refine gate_dst (N := 4) rfl ?_); refine box_event ?hg (N := 4) ?hd (cs := #[.int .i64 0, .int .i64 0]) (t := 27) ?hr ?_; (case hd | hg => rfl); (case hr => first | (go_simp; done) | (go_simp; rfl)); intro gb103 hg w12 hbox hb; have n0_ := Ak (below_step (by repeat (first | exact HB.out | apply bA | apply bD | apply bE)) hb); have n1_ := Ak (hbox); have n2_ := Ak ((by rw [hg]; exact (below_size (by repeat (first | exact HB.out | apply bA | apply bD | apply bE))) : w.heap.size ≤ gb103)); have n3_ := n2_; clear HB; have HB := n0_; have BK103 := n1_; have GW103 := n2_; have GE103 := n3_; clear n0_ n1_ n2_ n3_; clear hb hbox hg; have hcz13_0 := b0 BK103.out; have hcz13_1 := b1 BK103.out; have hfz13_0 := blk_frozen BK103.out 0; have hfz13_1 := blk_frozen BK103.out 1) | ((with_reducible refine gate_callee (f := 102) rfl ?_); refine goesL_ (some 21) rfl rfl Try.func102 (by kernel_rfl) rfl #[.agg #[.int .i64 ((rd_T27 l0 x16_1).f0), .int .i64 ((rd_T27 l0 x16_1).f1)]] rfl (by (try simp only [List.map_toArray, List.map_cons, List.map_nil]); first | done | rfl | (simp only [List.length_drop, List.length_take]; rfl)) ?_; (with_reducible refine (spec_PointOk.calls ((rd_T27 l0 x16_1).f0) ((rd_T27 l0 x16_1).f1) false _ A7.out).mono ?_); rintro e w14 ⟨rfl, hb⟩; refine ⟨_, rfl, ?_⟩; have n0_ := Ak (blk_below (g := gb103) (o := .cells #[.int .i64 ((rd_T27 l0 x16_1).f0), .int .i64 ((rd_T27 l0 x16_1).f1)] 27 (0, 0)) (by refine blk_put (cs := #[.int .i64 ((rd_T27 l0 x16_1).f0), .int .i64 0]) ?_ 1 _ rfl; refine blk_put (cs := #[.int .i64 0, .int .i64 0]) ?_ 0 _ rfl; exact BK103.out) hb); have n1_ := Ak (below_step (by repeat (first | exact HB.out | apply bA | apply bD | apply bE | refine below_set ?_ GE103.out)) hb); clear BK103; clear HB; have BK103 := n0_; have HB := n1_; clear n0_ n1_; (try clear hb); (try clear hb2); (try clear hk); (try clear hi)))
        go_ret
        exact ⟨by first | rfl | (simp [*, errW_none, errW_some] <;> rfl), by repeat (first | (with_reducible first | exact HB.out | apply bA | apply bD | apply bE | refine below_set ?_ GE103.out) | exact HB.out)⟩
      ·rw [if_neg c6] at H; exact absurd H (by simp)
     ·rw [if_neg c5] at H; exact absurd H (by simp)
    ·rw [if_neg c4] at H; have c4b0 : decide (x16_1 < (l0.length : Int)) = false := decide_eq_false c4; clear c4; have H' := Ak H; clear H
     go_wp2
     go_loopg [28] k1 (fun kq v28 w' => ∃ (x28_2 : Int), v28 = .int .i64 x28_2 ∧ Aside0 (spec_PolygonOk.l1 kq l0 (l0.length : Int) (l0.length : Int) x28_2 = some r) ∧ Aside0 (kq ≤ k1) ∧ Aside0 (Below w.heap.size w w'))
     case atStart => exact ⟨(0), (by first | rfl | (simp; done) | (simp [*]; done)), H', ⟨Nat.le_refl _⟩, ⟨by repeat (first | (with_reducible first | exact HB.out | apply bA | apply bD | apply bE) | exact HB.out)⟩⟩
     case round =>
      clear H'
      try clear c1
      try clear p1
      try clear q1
      try clear hx1
      try clear p2
      try clear c3
      try clear c4
      try clear c4b0
      try clear c5
      try clear c5b0
      try clear c6
      try clear c6b0
      try clear p6
      try clear c7
      try clear c8
      try clear c10
      try clear p10
      try clear q10
      try clear hx10
      try clear hcz10_0
      try clear hcz10_1
      try clear hcz13_0
      try clear hcz13_1
      try clear hfz10_0
      try clear hfz10_1
      try clear hfz13_0
      try clear hfz13_1
      try clear hx102_0
      try clear hx102_1
      try clear p102
      try clear p2
      try clear q102
      obtain ⟨x28_2, rfl, HA, HK2, HB⟩ := hrel
      cases gk with
      | zero => exact absurd HA.out (by simp [spec_PolygonOk.l1])
      | succ k2 =>
       have H := HA.out; clear HA; simp only [spec_PolygonOk.l1] at H
       by_cases c15 : x28_2 < (l0.length : Int)
       ·rw [if_pos c15] at H; have c15b0 : decide (x28_2 < (l0.length : Int)) = true := decide_eq_true c15; clear c15
        by_cases c16 : 0 ≤ x28_2
        ·rw [if_pos c16] at H; have c16b0 : decide (0 ≤ x28_2) = true := decide_eq_true c16; clear c16
         by_cases c17 : x28_2 < (l0.length : Int)
         ·rw [if_pos c17] at H; have c17b0 : decide (x28_2 < (l0.length : Int)) = true := decide_eq_true c17; clear c17
          by_cases c18 : (l0.length : Int) = 0
          ·rw [if_pos c18] at H; exact absurd H (by simp)
          ·rw [if_neg c18] at H; have c18b0 : ((l0.length : Int) == 0) = false := beq_eq_false_iff_ne.mpr c18; have c18b1 : ((l0.length : Int) != 0) = true := bne_iff_ne.mpr c18; have c18b2 : ¬ (l0 = []) := fun h_ => c18 (by rw [h_]; rfl)
           obtain ⟨ji19, hji19⟩ : ∃ j_ : Int, (Int.tmod (wrap64 (x28_2 + 1)) (l0.length : Int)) = j_ := ⟨_, rfl⟩; replace H : (if 0 ≤ (ji19) then (if (ji19) < (l0.length : Int) then (if (((rd_T27 l0 x28_2).f0) == ((rd_T27 l0 (ji19)).f0) && (((rd_T27 l0 x28_2).f1) == ((rd_T27 l0 (ji19)).f1))) = true then (some false) else (spec_PolygonOk.l1 k2 l0 (l0.length : Int) (l0.length : Int) (wrap64 (x28_2 + 1)))) else (none)) else (none)) = some r := by first | (rw [hji19] at H; exact H) | (simp only [hji19] at H ⊢; exact H)
           by_cases c20 : 0 ≤ (ji19)
           ·rw [if_pos c20] at H; have c20b0 : decide (0 ≤ (ji19)) = true := decide_eq_true c20; clear c20
            by_cases c21 : (ji19) < (l0.length : Int)
            ·rw [if_pos c21] at H; have c21b0 : decide ((ji19) < (l0.length : Int)) = true := decide_eq_true c21; clear c21
             by_cases c22 : (((rd_T27 l0 x28_2).f0) == ((rd_T27 l0 (ji19)).f0) && (((rd_T27 l0 x28_2).f1) == ((rd_T27 l0 (ji19)).f1))) = true
             ·rw [if_pos c22] at H; have c22b0 : (((rd_T27 l0 x28_2).f0) == ((rd_T27 l0 (ji19)).f0) && (((rd_T27 l0 x28_2).f1) == ((rd_T27 l0 (ji19)).f1))) = true := c22; (try (have c22b1 : decide (((rd_T27 l0 x28_2).f0) = ((rd_T27 l0 (ji19)).f0) && (((rd_T27 l0 x28_2).f1) == ((rd_T27 l0 (ji19)).f1))) = true := by simpa using c22)); (try (have c22b2 : (((rd_T27 l0 x28_2).f0) == ((rd_T27 l0 (ji19)).f0) && (((rd_T27 l0 x28_2).f1) == ((rd_T27 l0 (ji19)).f1))) = true := by simpa using c22)); clear c22; obtain rfl := Option.some.inj H
              try go_wp2
              have n0_ := Ak (below_drew1 HB.out); clear HB; have HB := n0_; clear n0_; have p105 : 0 ≤ (x28_2 : Int) := of_decide_eq_true (by first | (with_reducible assumption) | assumption); have q105 : x28_2 < (l0.length : Int) := of_decide_eq_true (by first | (with_reducible assumption) | assumption); obtain ⟨ad105, e105, hx105_0, hx105_1⟩ := at_T27 HR0.out x28_2 p105 q105; have hw105_1 := hx105_1; have hw105_0 := hx105_0; cases e105; replace hx105_0 := cB HB.out hx105_0; replace hx105_1 := cB HB.out hx105_1; replace p105 := eq_true p105; replace q105 := eq_true q105; have p106 : 0 ≤ ((ji19) : Int) := of_decide_eq_true (by first | (with_reducible assumption) | assumption); have q106 : (ji19) < (l0.length : Int) := of_decide_eq_true (by first | (with_reducible assumption) | assumption); obtain ⟨ad106, e106, hx106_0, hx106_1⟩ := at_T27 HR0.out (ji19) p106 q106; have hw106_1 := hx106_1; have hw106_0 := hx106_0; obtain rfl : ad105 = ad106 := (by injection e106); replace hx106_0 := cB HB.out hx106_0; replace hx106_1 := cB HB.out hx106_1; replace p106 := eq_true p106; replace q106 := eq_true q106; refine start_ (n := 12) (S := fun w' => w'.cell? (ad105.add ((x28_2).toNat * 2)) = some (.int .i64 ((rd_T27 l0 x28_2).f0)) ∧ w'.cell? ⟨(ad105.add ((x28_2).toNat * 2)).block, (ad105.add ((x28_2).toNat * 2)).off + 1, none⟩ = some (.int .i64 ((rd_T27 l0 x28_2).f1)) ∧ w'.cell? (ad105.add (((ji19)).toNat * 2)) = some (.int .i64 ((rd_T27 l0 (ji19)).f0)) ∧ w'.cell? ⟨(ad105.add (((ji19)).toNat * 2)).block, (ad105.add (((ji19)).toNat * 2)).off + 1, none⟩ = some (.int .i64 ((rd_T27 l0 (ji19)).f1))) (ds := []) #[F,F,F,F,F,F,F,F,F,F,F,F] (by kernel_rfl) rfl rfl ⟨((HB.out.cell (World.block_lt_of_cell? w _ hw105_0)).trans hw105_0), ((HB.out.cell (World.block_lt_of_cell? w _ hw105_1)).trans hw105_1), ((HB.out.cell (World.block_lt_of_cell? w _ hw106_0)).trans hw106_0), ((HB.out.cell (World.block_lt_of_cell? w _ hw106_1)).trans hw106_1)⟩ (fun hHeld => ?_); refine with_tabW spec_PolygonOk.tab13 spec_PolygonOk.bits13 (fun HT_ HW_ => ?_); generalize wr.drew = w23 at HB hx105_0 hx105_1 hx106_0 hx106_1 hHeld ⊢; refine pure_ (i := 0) (N := some 31) (v := ?_) (a' := ?_) #[T,F,F,F,F,F,F,F,F,F,F,F] rfl rfl (any_of HT_.out (by kernel_rfl)) (fun _ _ _ h => h) (Or.inl ⟨by rfl, ?_⟩) ?_ ?_; rotate_left
              ·intro w'; go_simp; with_reducible rfl
              rotate_left
              ·simp only [Act.put, sA, sB, sC, sD, sE]; rfl
              refine pure_ (i := 1) (N := some 32) (v := ?_) (a' := ?_) #[T,T,F,F,F,F,F,F,F,F,F,F] rfl rfl (any_of HT_.out (by kernel_rfl)) (fun _ _ _ h => h) (Or.inl ⟨by rfl, ?_⟩) ?_ ?_; rotate_left
              ·intro w'; go_simp; with_reducible rfl
              rotate_left
              ·simp only [Act.put, sA, sB, sC, sD, sE]; rfl
              refine pure_ (i := 2) (N := some 33) (v := ?_) (a' := ?_) #[T,T,T,F,F,F,F,F,F,F,F,F] rfl rfl (any_of HT_.out (by kernel_rfl)) (fun _ _ _ h => h) (Or.inl ⟨by rfl, ?_⟩) ?_ ?_; rotate_left
              ·intro w'; go_simp; with_reducible rfl
              rotate_left
              ·simp only [Act.put, sA, sB, sC, sD, sE]; rfl
              refine pure_ (i := 4) (N := some 35) (v := ?_) (a' := ?_) #[T,T,T,F,T,F,F,F,F,F,F,F] rfl rfl (any_of HT_.out (by kernel_rfl)) (fun _ _ _ h => h) (Or.inl ⟨by rfl, ?_⟩) ?_ ?_; rotate_left
              ·intro w'; go_simp; with_reducible rfl
              rotate_left
              ·simp only [Act.put, sA, sB, sC, sD, sE]; rfl
              refine pure_ (i := 5) (N := some 36) (v := ?_) (a' := ?_) #[T,T,T,F,T,T,F,F,F,F,F,F] rfl rfl (any_of HT_.out (by kernel_rfl)) (fun _ _ _ h => h) (Or.inl ⟨by rfl, ?_⟩) ?_ ?_; rotate_left
              ·intro w'; go_simp; with_reducible rfl
              rotate_left
              ·simp only [Act.put, sA, sB, sC, sD, sE]; rfl
              refine pure_ (i := 6) (N := some 37) (v := ?_) (a' := ?_) #[T,T,T,F,T,T,T,F,F,F,F,F] rfl rfl (any_of HT_.out (by kernel_rfl)) (fun _ _ _ h => h) (Or.inl ⟨by rfl, ?_⟩) ?_ ?_; rotate_left
              ·intro w'; go_simp; with_reducible rfl
              rotate_left
              ·simp only [Act.put, sA, sB, sC, sD, sE]; rfl
              refine pure_ (i := 7) (N := some 38) (v := ?_) (a' := ?_) #[T,T,T,F,T,T,T,T,F,F,F,F] rfl rfl (any_of HT_.out (by kernel_rfl)) (fun _ _ _ h => h) (Or.inl ⟨by rfl, ?_⟩) ?_ ?_; rotate_left
              ·intro w'; go_simp; with_reducible rfl
              rotate_left
              ·simp only [Act.put, sA, sB, sC, sD, sE]; rfl
              refine pure_ (i := 8) (N := some 39) (v := ?_) (a' := ?_) #[T,T,T,F,T,T,T,T,T,F,F,F] rfl rfl (any_of HT_.out (by kernel_rfl)) (fun _ _ _ h => h) (Or.inl ⟨by rfl, ?_⟩) ?_ ?_; rotate_left
              ·intro w'; go_simp; with_reducible rfl
              rotate_left
              ·simp only [Act.put, sA, sB, sC, sD, sE]; rfl
              refine pure_ (i := 9) (N := some 40) (v := ?_) (a' := ?_) #[T,T,T,F,T,T,T,T,T,T,F,F] rfl rfl (any_of HT_.out (by kernel_rfl)) (fun _ _ _ h => h) (Or.inl ⟨by rfl, ?_⟩) ?_ ?_; rotate_left
              ·intro w'; go_simp; with_reducible rfl
              rotate_left
              ·simp only [Act.put, sA, sB, sC, sD, sE]; rfl
              refine take_ (i := 3) (N := some 34) (v := ?_) (a' := ?_) #[T,T,T,T,T,T,T,T,T,T,F,F] rfl rfl (take_ofW HT_.out HW_.out (by kernel_rfl)) (fun _ _ _ h => h) (Or.inl ⟨by rfl, ?_⟩) hHeld ?_ ?_; rotate_left
              ·rintro w' ⟨s0, s1, s2, s3⟩; go_simp; with_reducible rfl
              rotate_left
              ·simp only [Act.put, sA, sB, sC, sD, sE]; rfl
              refine take_ (i := 10) (N := some 41) (v := ?_) (a' := ?_) #[T,T,T,T,T,T,T,T,T,T,T,F] rfl rfl (take_ofW HT_.out HW_.out (by kernel_rfl)) (fun _ _ _ h => h) (Or.inl ⟨by rfl, ?_⟩) hHeld ?_ ?_; rotate_left
              ·rintro w' ⟨s0, s1, s2, s3⟩; go_simp; with_reducible rfl
              rotate_left
              ·simp only [Act.put, sA, sB, sC, sD, sE]; rfl
              refine pure_ (i := 11) (N := some 42) (v := ?_) (a' := ?_) #[T,T,T,T,T,T,T,T,T,T,T,T] rfl rfl (any_of HT_.out (by kernel_rfl)) (fun _ _ _ h => h) (Or.inl ⟨by rfl, ?_⟩) ?_ ?_; rotate_left
              ·intro w'; go_simp; with_reducible rfl
              rotate_left
              ·simp only [Act.put, sA, sB, sC, sD, sE]; rfl
              refine done_ (done_of HT_.out (by kernel_rfl)) ?_
              try go_wp2
              go_ret
              exact ⟨by first | rfl | (simp [errW_none, errW_some] <;> rfl) | (simp only [← hji19]; first | rfl | (simp [errW_none, errW_some] <;> rfl)) | (simp [*, errW_none, errW_some] <;> rfl), by repeat (first | (with_reducible first | exact HB.out | apply bA | apply bD | apply bE) | exact HB.out)⟩
             ·rw [if_neg c22] at H; have c22b0 : (((rd_T27 l0 x28_2).f0) == ((rd_T27 l0 (ji19)).f0) && (((rd_T27 l0 x28_2).f1) == ((rd_T27 l0 (ji19)).f1))) = false := by simpa using c22
              (try (have c22b1 : decide (((rd_T27 l0 x28_2).f0) = ((rd_T27 l0 (ji19)).f0) && (((rd_T27 l0 x28_2).f1) == ((rd_T27 l0 (ji19)).f1))) = false := by simpa using c22)); (try (have c22b2 : (((rd_T27 l0 x28_2).f0) == ((rd_T27 l0 (ji19)).f0) && (((rd_T27 l0 x28_2).f1) == ((rd_T27 l0 (ji19)).f1))) = false := by simpa using c22)); (try (have c22b3 : ¬ (((rd_T27 l0 x28_2).f0) = ((rd_T27 l0 (ji19)).f0) && (((rd_T27 l0 x28_2).f1) == ((rd_T27 l0 (ji19)).f1))) := by simpa using c22)); clear c22; have H' := Ak H; clear H
              try go_wp2
              have n0_ := Ak (below_drew1 HB.out); clear HB; have HB := n0_; clear n0_; have p105 : 0 ≤ (x28_2 : Int) := of_decide_eq_true (by first | (with_reducible assumption) | assumption); have q105 : x28_2 < (l0.length : Int) := of_decide_eq_true (by first | (with_reducible assumption) | assumption); obtain ⟨ad105, e105, hx105_0, hx105_1⟩ := at_T27 HR0.out x28_2 p105 q105; have hw105_1 := hx105_1; have hw105_0 := hx105_0; cases e105; replace hx105_0 := cB HB.out hx105_0; replace hx105_1 := cB HB.out hx105_1; replace p105 := eq_true p105; replace q105 := eq_true q105; have p106 : 0 ≤ ((ji19) : Int) := of_decide_eq_true (by first | (with_reducible assumption) | assumption); have q106 : (ji19) < (l0.length : Int) := of_decide_eq_true (by first | (with_reducible assumption) | assumption); obtain ⟨ad106, e106, hx106_0, hx106_1⟩ := at_T27 HR0.out (ji19) p106 q106; have hw106_1 := hx106_1; have hw106_0 := hx106_0; obtain rfl : ad105 = ad106 := (by injection e106); replace hx106_0 := cB HB.out hx106_0; replace hx106_1 := cB HB.out hx106_1; replace p106 := eq_true p106; replace q106 := eq_true q106; refine start_ (n := 12) (S := fun w' => w'.cell? (ad105.add ((x28_2).toNat * 2)) = some (.int .i64 ((rd_T27 l0 x28_2).f0)) ∧ w'.cell? ⟨(ad105.add ((x28_2).toNat * 2)).block, (ad105.add ((x28_2).toNat * 2)).off + 1, none⟩ = some (.int .i64 ((rd_T27 l0 x28_2).f1)) ∧ w'.cell? (ad105.add (((ji19)).toNat * 2)) = some (.int .i64 ((rd_T27 l0 (ji19)).f0)) ∧ w'.cell? ⟨(ad105.add (((ji19)).toNat * 2)).block, (ad105.add (((ji19)).toNat * 2)).off + 1, none⟩ = some (.int .i64 ((rd_T27 l0 (ji19)).f1))) (ds := []) #[F,F,F,F,F,F,F,F,F,F,F,F] (by kernel_rfl) rfl rfl ⟨((HB.out.cell (World.block_lt_of_cell? w _ hw105_0)).trans hw105_0), ((HB.out.cell (World.block_lt_of_cell? w _ hw105_1)).trans hw105_1), ((HB.out.cell (World.block_lt_of_cell? w _ hw106_0)).trans hw106_0), ((HB.out.cell (World.block_lt_of_cell? w _ hw106_1)).trans hw106_1)⟩ (fun hHeld => ?_); refine with_tabW spec_PolygonOk.tab13 spec_PolygonOk.bits13 (fun HT_ HW_ => ?_); generalize wr.drew = w24 at HB hx105_0 hx105_1 hx106_0 hx106_1 hHeld ⊢; refine pure_ (i := 0) (N := some 31) (v := ?_) (a' := ?_) #[T,F,F,F,F,F,F,F,F,F,F,F] rfl rfl (any_of HT_.out (by kernel_rfl)) (fun _ _ _ h => h) (Or.inl ⟨by rfl, ?_⟩) ?_ ?_; rotate_left
              ·intro w'; go_simp; with_reducible rfl
              rotate_left
              ·simp only [Act.put, sA, sB, sC, sD, sE]; rfl
              refine pure_ (i := 1) (N := some 32) (v := ?_) (a' := ?_) #[T,T,F,F,F,F,F,F,F,F,F,F] rfl rfl (any_of HT_.out (by kernel_rfl)) (fun _ _ _ h => h) (Or.inl ⟨by rfl, ?_⟩) ?_ ?_; rotate_left
              ·intro w'; go_simp; with_reducible rfl
              rotate_left
              ·simp only [Act.put, sA, sB, sC, sD, sE]; rfl
              refine pure_ (i := 2) (N := some 33) (v := ?_) (a' := ?_) #[T,T,T,F,F,F,F,F,F,F,F,F] rfl rfl (any_of HT_.out (by kernel_rfl)) (fun _ _ _ h => h) (Or.inl ⟨by rfl, ?_⟩) ?_ ?_; rotate_left
              ·intro w'; go_simp; with_reducible rfl
              rotate_left
              ·simp only [Act.put, sA, sB, sC, sD, sE]; rfl
              refine pure_ (i := 4) (N := some 35) (v := ?_) (a' := ?_) #[T,T,T,F,T,F,F,F,F,F,F,F] rfl rfl (any_of HT_.out (by kernel_rfl)) (fun _ _ _ h => h) (Or.inl ⟨by rfl, ?_⟩) ?_ ?_; rotate_left
              ·intro w'; go_simp; with_reducible rfl
              rotate_left
              ·simp only [Act.put, sA, sB, sC, sD, sE]; rfl
              refine pure_ (i := 5) (N := some 36) (v := ?_) (a' := ?_) #[T,T,T,F,T,T,F,F,F,F,F,F] rfl rfl (any_of HT_.out (by kernel_rfl)) (fun _ _ _ h => h) (Or.inl ⟨by rfl, ?_⟩) ?_ ?_; rotate_left
              ·intro w'; go_simp; with_reducible rfl
              rotate_left
              ·simp only [Act.put, sA, sB, sC, sD, sE]; rfl
              refine pure_ (i := 6) (N := some 37) (v := ?_) (a' := ?_) #[T,T,T,F,T,T,T,F,F,F,F,F] rfl rfl (any_of HT_.out (by kernel_rfl)) (fun _ _ _ h => h) (Or.inl ⟨by rfl, ?_⟩) ?_ ?_; rotate_left
              ·intro w'; go_simp; with_reducible rfl
              rotate_left
              ·simp only [Act.put, sA, sB, sC, sD, sE]; rfl
              refine pure_ (i := 7) (N := some 38) (v := ?_) (a' := ?_) #[T,T,T,F,T,T,T,T,F,F,F,F] rfl rfl (any_of HT_.out (by kernel_rfl)) (fun _ _ _ h => h) (Or.inl ⟨by rfl, ?_⟩) ?_ ?_; rotate_left
              ·intro w'; go_simp; with_reducible rfl
              rotate_left
              ·simp only [Act.put, sA, sB, sC, sD, sE]; rfl
              refine pure_ (i := 8) (N := some 39) (v := ?_) (a' := ?_) #[T,T,T,F,T,T,T,T,T,F,F,F] rfl rfl (any_of HT_.out (by kernel_rfl)) (fun _ _ _ h => h) (Or.inl ⟨by rfl, ?_⟩) ?_ ?_; rotate_left
              ·intro w'; go_simp; with_reducible rfl
              rotate_left
              ·simp only [Act.put, sA, sB, sC, sD, sE]; rfl
              refine pure_ (i := 9) (N := some 40) (v := ?_) (a' := ?_) #[T,T,T,F,T,T,T,T,T,T,F,F] rfl rfl (any_of HT_.out (by kernel_rfl)) (fun _ _ _ h => h) (Or.inl ⟨by rfl, ?_⟩) ?_ ?_; rotate_left
              ·intro w'; go_simp; with_reducible rfl
              rotate_left
              ·simp only [Act.put, sA, sB, sC, sD, sE]; rfl
              refine take_ (i := 3) (N := some 34) (v := ?_) (a' := ?_) #[T,T,T,T,T,T,T,T,T,T,F,F] rfl rfl (take_ofW HT_.out HW_.out (by kernel_rfl)) (fun _ _ _ h => h) (Or.inl ⟨by rfl, ?_⟩) hHeld ?_ ?_; rotate_left
              ·rintro w' ⟨s0, s1, s2, s3⟩; go_simp; with_reducible rfl
              rotate_left
              ·simp only [Act.put, sA, sB, sC, sD, sE]; rfl
              refine take_ (i := 10) (N := some 41) (v := ?_) (a' := ?_) #[T,T,T,T,T,T,T,T,T,T,T,F] rfl rfl (take_ofW HT_.out HW_.out (by kernel_rfl)) (fun _ _ _ h => h) (Or.inl ⟨by rfl, ?_⟩) hHeld ?_ ?_; rotate_left
              ·rintro w' ⟨s0, s1, s2, s3⟩; go_simp; with_reducible rfl
              rotate_left
              ·simp only [Act.put, sA, sB, sC, sD, sE]; rfl
              refine pure_ (i := 11) (N := some 42) (v := ?_) (a' := ?_) #[T,T,T,T,T,T,T,T,T,T,T,T] rfl rfl (any_of HT_.out (by kernel_rfl)) (fun _ _ _ h => h) (Or.inl ⟨by rfl, ?_⟩) ?_ ?_; rotate_left
              ·intro w'; go_simp; with_reducible rfl
              rotate_left
              ·simp only [Act.put, sA, sB, sC, sD, sE]; rfl
              refine done_ (done_of HT_.out (by kernel_rfl)) ?_
              try go_wp2
              go_roundg k2
              case measure => have := HK1.out; have := HK2.out; omega
              case rel => exact ⟨(wrap64 (x28_2 + 1)), (by first | rfl | (simp; done) | (simp [*]; done)), H', ⟨by have := HK1.out; have := HK2.out; omega⟩, ⟨by repeat (first | (with_reducible first | exact HB.out | apply bA | apply bD | apply bE) | exact HB.out)⟩⟩
            ·rw [if_neg c21] at H; exact absurd H (by simp)
           ·rw [if_neg c20] at H; exact absurd H (by simp)
         ·rw [if_neg c17] at H; exact absurd H (by simp)
        ·rw [if_neg c16] at H; exact absurd H (by simp)
       ·rw [if_neg c15] at H; have c15b0 : decide (x28_2 < (l0.length : Int)) = false := decide_eq_false c15; clear c15; have H' := Ak H; clear H
        go_wp2
        go_loopg [46] k2 (fun kq v46 w' => ∃ (x46_3 : Int), v46 = .int .i64 x46_3 ∧ Aside0 (spec_PolygonOk.l2 kq l0 (l0.length : Int) (l0.length : Int) x46_3 = some r) ∧ Aside0 (kq ≤ k2) ∧ Aside0 (Below w.heap.size w w'))
        case atStart => exact ⟨(0), (by first | rfl | (simp; done) | (simp [*]; done)), H', ⟨Nat.le_refl _⟩, ⟨by repeat (first | (with_reducible first | exact HB.out | apply bA | apply bD | apply bE) | exact HB.out)⟩⟩
        case round =>
         clear H'
         try clear c1
         try clear p1
         try clear q1
         try clear hx1
         try clear c2
         try clear p2
         try clear c3
         try clear c4
         try clear c4b0
         try clear c5
         try clear c5b0
         try clear c6
         try clear c6b0
         try clear p6
         try clear c7
         try clear c8
         try clear c10
         try clear p10
         try clear q10
         try clear hx10
         try clear c15
         try clear c15b0
         try clear c16
         try clear c16b0
         try clear c17
         try clear c17b0
         try clear c18
         try clear c18b0
         try clear c18b1
         try clear c18b2
         try clear c20
         try clear c20b0
         try clear c21
         try clear c21b0
         try clear c22
         try clear c22b0
         try clear c22b1
         try clear c22b2
         try clear hcz10_0
         try clear hcz10_1
         try clear hcz13_0
         try clear hcz13_1
         try clear hfz10_0
         try clear hfz10_1
         try clear hfz13_0
         try clear hfz13_1
         try clear hx102_0
         try clear hx102_1
         try clear hx105_0
         try clear hx105_1
         try clear hx106_0
         try clear hx106_1
         try clear p1
         try clear p10
         try clear p102
         try clear p105
         try clear p106
         try clear p2
         try clear p6
         try clear q1
         try clear q10
         try clear q102
         try clear q105
         try clear q106
         obtain ⟨x46_3, rfl, HA, HK3, HB⟩ := hrel
         cases gk with
         | zero => exact absurd HA.out (by simp [spec_PolygonOk.l2])
         | succ k3 =>
          have H := HA.out; clear HA; simp only [spec_PolygonOk.l2] at H
          by_cases c25 : x46_3 < (l0.length : Int)
          ·rw [if_pos c25] at H; have c25b0 : decide (x46_3 < (l0.length : Int)) = true := decide_eq_true c25; clear c25; have H' := Ak H; clear H
           go_wp2
           go_loopg [8] k3 (fun kq v8 w' => ∃ (x8_4 : Int), v8 = .int .i64 x8_4 ∧ Aside0 (spec_PolygonOk.l3 kq l0 (l0.length : Int) x46_3 x8_4 (l0.length : Int) x46_3 = some r) ∧ Aside0 (kq ≤ k3) ∧ Aside0 (Below w.heap.size w w'))
           case atStart => exact ⟨(wrap64 (x46_3 + 1)), (by first | rfl | (simp; done) | (simp [*]; done)), H', ⟨Nat.le_refl _⟩, ⟨by repeat (first | (with_reducible first | exact HB.out | apply bA | apply bD | apply bE) | exact HB.out)⟩⟩
           case round =>
            clear H'
            try clear c1
            try clear p1
            try clear q1
            try clear hx1
            try clear c2
            try clear p2
            try clear c3
            try clear c4
            try clear c4b0
            try clear c5
            try clear c5b0
            try clear c6
            try clear c6b0
            try clear p6
            try clear c7
            try clear c8
            try clear c10
            try clear p10
            try clear q10
            try clear hx10
            try clear c15
            try clear c15b0
            try clear c16
            try clear c16b0
            try clear c17
            try clear c17b0
            try clear c18
            try clear c18b0
            try clear c18b1
            try clear c18b2
            try clear c20
            try clear c20b0
            try clear c21
            try clear c21b0
            try clear c22
            try clear c22b0
            try clear c22b1
            try clear c22b2
            try clear c25
            try clear c25b0
            try clear hcz10_0
            try clear hcz10_1
            try clear hcz13_0
            try clear hcz13_1
            try clear hfz10_0
            try clear hfz10_1
            try clear hfz13_0
            try clear hfz13_1
            try clear hx102_0
            try clear hx102_1
            try clear hx105_0
            try clear hx105_1
            try clear hx106_0
            try clear hx106_1
            try clear p1
            try clear p10
            try clear p102
            try clear p105
            try clear p106
            try clear p2
            try clear p6
            try clear q1
            try clear q10
            try clear q102
            try clear q105
            try clear q106
            obtain ⟨x8_4, rfl, HA, HK4, HB⟩ := hrel
            cases gk with
            | zero => exact absurd HA.out (by simp [spec_PolygonOk.l3])
            | succ k4 =>
             have H := HA.out; clear HA; simp only [spec_PolygonOk.l3] at H
             by_cases c26 : x8_4 < (l0.length : Int)
             ·rw [if_pos c26] at H; have c26b0 : decide (x8_4 < (l0.length : Int)) = true := decide_eq_true c26; clear c26
              by_cases c27 : 0 ≤ x46_3
              ·rw [if_pos c27] at H; have c27b0 : decide (0 ≤ x46_3) = true := decide_eq_true c27; clear c27
               by_cases c28 : x46_3 < (l0.length : Int)
               ·rw [if_pos c28] at H; have c28b0 : decide (x46_3 < (l0.length : Int)) = true := decide_eq_true c28; clear c28
                by_cases c29 : (l0.length : Int) = 0
                ·rw [if_pos c29] at H; exact absurd H (by simp)
                ·rw [if_neg c29] at H; have c29b0 : ((l0.length : Int) == 0) = false := beq_eq_false_iff_ne.mpr c29; have c29b1 : ((l0.length : Int) != 0) = true := bne_iff_ne.mpr c29; have c29b2 : ¬ (l0 = []) := fun h_ => c29 (by rw [h_]; rfl)
                 obtain ⟨ji30, hji30⟩ : ∃ j_ : Int, (Int.tmod (wrap64 (x46_3 + 1)) (l0.length : Int)) = j_ := ⟨_, rfl⟩; replace H : (if 0 ≤ (ji30) then (if (ji30) < (l0.length : Int) then (if 0 ≤ x8_4 then (if x8_4 < (l0.length : Int) then (if 0 ≤ (Int.tmod (wrap64 (x8_4 + 1)) (l0.length : Int)) then (if (Int.tmod (wrap64 (x8_4 + 1)) (l0.length : Int)) < (l0.length : Int) then ((spec_l02Meet.f ((rd_T27 l0 x46_3).f0) ((rd_T27 l0 x46_3).f1) ((rd_T27 l0 (ji30)).f0) ((rd_T27 l0 (ji30)).f1) ((rd_T27 l0 x8_4).f0) ((rd_T27 l0 x8_4).f1) ((rd_T27 l0 (Int.tmod (wrap64 (x8_4 + 1)) (l0.length : Int))).f0) ((rd_T27 l0 (Int.tmod (wrap64 (x8_4 + 1)) (l0.length : Int))).f1)).bind fun t111 => (if x8_4 = (wrap64 (x46_3 + 1)) then (spec_PolygonOk.j4 k4 l0 (l0.length : Int) x46_3 x8_4 t111 (l0.length : Int) x46_3 true) else (if x46_3 = 0 then (spec_PolygonOk.j4 k4 l0 (l0.length : Int) x46_3 x8_4 t111 (l0.length : Int) x46_3 (x8_4 == (wrap64 ((l0.length : Int) - 1)))) else (spec_PolygonOk.j4 k4 l0 (l0.length : Int) x46_3 x8_4 t111 (l0.length : Int) x46_3 false)))) else (none)) else (none)) else (none)) else (none)) else (none)) else (none)) = some r := by first | (rw [hji30] at H; exact H) | (simp only [hji30] at H ⊢; exact H)
                 by_cases c31 : 0 ≤ (ji30)
                 ·rw [if_pos c31] at H; have c31b0 : decide (0 ≤ (ji30)) = true := decide_eq_true c31; clear c31
                  by_cases c32 : (ji30) < (l0.length : Int)
                  ·rw [if_pos c32] at H; have c32b0 : decide ((ji30) < (l0.length : Int)) = true := decide_eq_true c32; clear c32
                   by_cases c33 : 0 ≤ x8_4
                   ·rw [if_pos c33] at H; have c33b0 : decide (0 ≤ x8_4) = true := decide_eq_true c33; clear c33
                    by_cases c34 : x8_4 < (l0.length : Int)
                    ·rw [if_pos c34] at H; have c34b0 : decide (x8_4 < (l0.length : Int)) = true := decide_eq_true c34; clear c34; obtain ⟨ji35, hji35⟩ : ∃ j_ : Int, (Int.tmod (wrap64 (x8_4 + 1)) (l0.length : Int)) = j_ := ⟨_, rfl⟩; replace H : (if 0 ≤ (ji35) then (if (ji35) < (l0.length : Int) then ((spec_l02Meet.f ((rd_T27 l0 x46_3).f0) ((rd_T27 l0 x46_3).f1) ((rd_T27 l0 (ji30)).f0) ((rd_T27 l0 (ji30)).f1) ((rd_T27 l0 x8_4).f0) ((rd_T27 l0 x8_4).f1) ((rd_T27 l0 (ji35)).f0) ((rd_T27 l0 (ji35)).f1)).bind fun t111 => (if x8_4 = (wrap64 (x46_3 + 1)) then (spec_PolygonOk.j4 k4 l0 (l0.length : Int) x46_3 x8_4 t111 (l0.length : Int) x46_3 true) else (if x46_3 = 0 then (spec_PolygonOk.j4 k4 l0 (l0.length : Int) x46_3 x8_4 t111 (l0.length : Int) x46_3 (x8_4 == (wrap64 ((l0.length : Int) - 1)))) else (spec_PolygonOk.j4 k4 l0 (l0.length : Int) x46_3 x8_4 t111 (l0.length : Int) x46_3 false)))) else (none)) else (none)) = some r := by first | (rw [hji35] at H; exact H) | (simp only [hji35] at H ⊢; exact H)
                     by_cases c36 : 0 ≤ (ji35)
                     ·rw [if_pos c36] at H; have c36b0 : decide (0 ≤ (ji35)) = true := decide_eq_true c36; clear c36
                      by_cases c37 : (ji35) < (l0.length : Int)
                      ·rw [if_pos c37] at H; have c37b0 : decide ((ji35) < (l0.length : Int)) = true := decide_eq_true c37; clear c37; replace H := Option.bind_eq_some_iff.mp H; obtain ⟨t111, A380, H⟩ := H; replace H : (if x8_4 = (wrap64 (x46_3 + 1)) then (spec_PolygonOk.j4 k4 l0 (l0.length : Int) x46_3 x8_4 t111 (l0.length : Int) x46_3 true) else (if x46_3 = 0 then (spec_PolygonOk.j4 k4 l0 (l0.length : Int) x46_3 x8_4 t111 (l0.length : Int) x46_3 (x8_4 == (wrap64 ((l0.length : Int) - 1)))) else (spec_PolygonOk.j4 k4 l0 (l0.length : Int) x46_3 x8_4 t111 (l0.length : Int) x46_3 false))) = some r := H; have A38 := Ak A380; clear A380; have HC39 := Ak H; clear H
                       try go_wp2
                       have n0_ := Ak (below_drew1 HB.out); clear HB; have HB := n0_; clear n0_; have p107 : 0 ≤ (x46_3 : Int) := of_decide_eq_true (by first | (with_reducible assumption) | assumption); have q107 : x46_3 < (l0.length : Int) := of_decide_eq_true (by first | (with_reducible assumption) | assumption); obtain ⟨ad107, e107, hx107_0, hx107_1⟩ := at_T27 HR0.out x46_3 p107 q107; have hw107_1 := hx107_1; have hw107_0 := hx107_0; cases e107; replace hx107_0 := cB HB.out hx107_0; replace hx107_1 := cB HB.out hx107_1; replace p107 := eq_true p107; replace q107 := eq_true q107; have p108 : 0 ≤ ((ji30) : Int) := of_decide_eq_true (by first | (with_reducible assumption) | assumption); have q108 : (ji30) < (l0.length : Int) := of_decide_eq_true (by first | (with_reducible assumption) | assumption); obtain ⟨ad108, e108, hx108_0, hx108_1⟩ := at_T27 HR0.out (ji30) p108 q108; have hw108_1 := hx108_1; have hw108_0 := hx108_0; obtain rfl : ad107 = ad108 := (by injection e108); replace hx108_0 := cB HB.out hx108_0; replace hx108_1 := cB HB.out hx108_1; replace p108 := eq_true p108; replace q108 := eq_true q108; have p109 : 0 ≤ (x8_4 : Int) := of_decide_eq_true (by first | (with_reducible assumption) | assumption); have q109 : x8_4 < (l0.length : Int) := of_decide_eq_true (by first | (with_reducible assumption) | assumption); obtain ⟨ad109, e109, hx109_0, hx109_1⟩ := at_T27 HR0.out x8_4 p109 q109; have hw109_1 := hx109_1; have hw109_0 := hx109_0; obtain rfl : ad107 = ad109 := (by injection e109); replace hx109_0 := cB HB.out hx109_0; replace hx109_1 := cB HB.out hx109_1; replace p109 := eq_true p109; replace q109 := eq_true q109; have p110 : 0 ≤ ((ji35) : Int) := of_decide_eq_true (by first | (with_reducible assumption) | assumption); have q110 : (ji35) < (l0.length : Int) := of_decide_eq_true (by first | (with_reducible assumption) | assumption); obtain ⟨ad110, e110, hx110_0, hx110_1⟩ := at_T27 HR0.out (ji35) p110 q110; have hw110_1 := hx110_1; have hw110_0 := hx110_0; obtain rfl : ad107 = ad110 := (by injection e110); replace hx110_0 := cB HB.out hx110_0; replace hx110_1 := cB HB.out hx110_1; replace p110 := eq_true p110; replace q110 := eq_true q110; refine start_ (n := 24) (S := fun w' => w'.cell? (ad107.add ((x46_3).toNat * 2)) = some (.int .i64 ((rd_T27 l0 x46_3).f0)) ∧ w'.cell? ⟨(ad107.add ((x46_3).toNat * 2)).block, (ad107.add ((x46_3).toNat * 2)).off + 1, none⟩ = some (.int .i64 ((rd_T27 l0 x46_3).f1)) ∧ w'.cell? (ad107.add (((ji30)).toNat * 2)) = some (.int .i64 ((rd_T27 l0 (ji30)).f0)) ∧ w'.cell? ⟨(ad107.add (((ji30)).toNat * 2)).block, (ad107.add (((ji30)).toNat * 2)).off + 1, none⟩ = some (.int .i64 ((rd_T27 l0 (ji30)).f1)) ∧ w'.cell? (ad107.add ((x8_4).toNat * 2)) = some (.int .i64 ((rd_T27 l0 x8_4).f0)) ∧ w'.cell? ⟨(ad107.add ((x8_4).toNat * 2)).block, (ad107.add ((x8_4).toNat * 2)).off + 1, none⟩ = some (.int .i64 ((rd_T27 l0 x8_4).f1)) ∧ w'.cell? (ad107.add (((ji35)).toNat * 2)) = some (.int .i64 ((rd_T27 l0 (ji35)).f0)) ∧ w'.cell? ⟨(ad107.add (((ji35)).toNat * 2)).block, (ad107.add (((ji35)).toNat * 2)).off + 1, none⟩ = some (.int .i64 ((rd_T27 l0 (ji35)).f1))) (ds := []) #[F,F,F,F,F,F,F,F,F,F,F,F,F,F,F,F,F,F,F,F,F,F,F,F] (by kernel_rfl) rfl rfl ⟨((HB.out.cell (World.block_lt_of_cell? w _ hw107_0)).trans hw107_0), ((HB.out.cell (World.block_lt_of_cell? w _ hw107_1)).trans hw107_1), ((HB.out.cell (World.block_lt_of_cell? w _ hw108_0)).trans hw108_0), ((HB.out.cell (World.block_lt_of_cell? w _ hw108_1)).trans hw108_1), ((HB.out.cell (World.block_lt_of_cell? w _ hw109_0)).trans hw109_0), ((HB.out.cell (World.block_lt_of_cell? w _ hw109_1)).trans hw109_1), ((HB.out.cell (World.block_lt_of_cell? w _ hw110_0)).trans hw110_0), ((HB.out.cell (World.block_lt_of_cell? w _ hw110_1)).trans hw110_1)⟩ (fun hHeld => ?_); refine with_tabW spec_PolygonOk.tab22 spec_PolygonOk.bits22 (fun HT_ HW_ => ?_); generalize wr.drew = w40 at HB hx107_0 hx107_1 hx108_0 hx108_1 hx109_0 hx109_1 hx110_0 hx110_1 hHeld ⊢; refine pure_ (i := 0) (N := some 56) (v := ?_) (a' := ?_) #[T,F,F,F,F,F,F,F,F,F,F,F,F,F,F,F,F,F,F,F,F,F,F,F] rfl rfl (any_of HT_.out (by kernel_rfl)) (fun _ _ _ h => h) (Or.inl ⟨by rfl, ?_⟩) ?_ ?_; rotate_left
                       ·intro w'; go_simp; with_reducible rfl
                       rotate_left
                       ·simp only [Act.put, sA, sB, sC, sD, sE]; rfl
                       refine pure_ (i := 1) (N := some 57) (v := ?_) (a' := ?_) #[T,T,F,F,F,F,F,F,F,F,F,F,F,F,F,F,F,F,F,F,F,F,F,F] rfl rfl (any_of HT_.out (by kernel_rfl)) (fun _ _ _ h => h) (Or.inl ⟨by rfl, ?_⟩) ?_ ?_; rotate_left
                       ·intro w'; go_simp; with_reducible rfl
                       rotate_left
                       ·simp only [Act.put, sA, sB, sC, sD, sE]; rfl
                       refine pure_ (i := 2) (N := some 58) (v := ?_) (a' := ?_) #[T,T,T,F,F,F,F,F,F,F,F,F,F,F,F,F,F,F,F,F,F,F,F,F] rfl rfl (any_of HT_.out (by kernel_rfl)) (fun _ _ _ h => h) (Or.inl ⟨by rfl, ?_⟩) ?_ ?_; rotate_left
                       ·intro w'; go_simp; with_reducible rfl
                       rotate_left
                       ·simp only [Act.put, sA, sB, sC, sD, sE]; rfl
                       refine pure_ (i := 4) (N := some 60) (v := ?_) (a' := ?_) #[T,T,T,F,T,F,F,F,F,F,F,F,F,F,F,F,F,F,F,F,F,F,F,F] rfl rfl (any_of HT_.out (by kernel_rfl)) (fun _ _ _ h => h) (Or.inl ⟨by rfl, ?_⟩) ?_ ?_; rotate_left
                       ·intro w'; go_simp; with_reducible rfl
                       rotate_left
                       ·simp only [Act.put, sA, sB, sC, sD, sE]; rfl
                       refine pure_ (i := 5) (N := some 61) (v := ?_) (a' := ?_) #[T,T,T,F,T,T,F,F,F,F,F,F,F,F,F,F,F,F,F,F,F,F,F,F] rfl rfl (any_of HT_.out (by kernel_rfl)) (fun _ _ _ h => h) (Or.inl ⟨by rfl, ?_⟩) ?_ ?_; rotate_left
                       ·intro w'; go_simp; with_reducible rfl
                       rotate_left
                       ·simp only [Act.put, sA, sB, sC, sD, sE]; rfl
                       refine pure_ (i := 6) (N := some 62) (v := ?_) (a' := ?_) #[T,T,T,F,T,T,T,F,F,F,F,F,F,F,F,F,F,F,F,F,F,F,F,F] rfl rfl (any_of HT_.out (by kernel_rfl)) (fun _ _ _ h => h) (Or.inl ⟨by rfl, ?_⟩) ?_ ?_; rotate_left
                       ·intro w'; go_simp; with_reducible rfl
                       rotate_left
                       ·simp only [Act.put, sA, sB, sC, sD, sE]; rfl
                       refine pure_ (i := 7) (N := some 63) (v := ?_) (a' := ?_) #[T,T,T,F,T,T,T,T,F,F,F,F,F,F,F,F,F,F,F,F,F,F,F,F] rfl rfl (any_of HT_.out (by kernel_rfl)) (fun _ _ _ h => h) (Or.inl ⟨by rfl, ?_⟩) ?_ ?_; rotate_left
                       ·intro w'; go_simp; with_reducible rfl
                       rotate_left
                       ·simp only [Act.put, sA, sB, sC, sD, sE]; rfl
                       refine pure_ (i := 8) (N := some 64) (v := ?_) (a' := ?_) #[T,T,T,F,T,T,T,T,T,F,F,F,F,F,F,F,F,F,F,F,F,F,F,F] rfl rfl (any_of HT_.out (by kernel_rfl)) (fun _ _ _ h => h) (Or.inl ⟨by rfl, ?_⟩) ?_ ?_; rotate_left
                       ·intro w'; go_simp; with_reducible rfl
                       rotate_left
                       ·simp only [Act.put, sA, sB, sC, sD, sE]; rfl
                       refine pure_ (i := 9) (N := some 65) (v := ?_) (a' := ?_) #[T,T,T,F,T,T,T,T,T,T,F,F,F,F,F,F,F,F,F,F,F,F,F,F] rfl rfl (any_of HT_.out (by kernel_rfl)) (fun _ _ _ h => h) (Or.inl ⟨by rfl, ?_⟩) ?_ ?_; rotate_left
                       ·intro w'; go_simp; with_reducible rfl
                       rotate_left
                       ·simp only [Act.put, sA, sB, sC, sD, sE]; rfl
                       refine pure_ (i := 11) (N := some 67) (v := ?_) (a' := ?_) #[T,T,T,F,T,T,T,T,T,T,F,T,F,F,F,F,F,F,F,F,F,F,F,F] rfl rfl (any_of HT_.out (by kernel_rfl)) (fun _ _ _ h => h) (Or.inl ⟨by rfl, ?_⟩) ?_ ?_; rotate_left
                       ·intro w'; go_simp; with_reducible rfl
                       rotate_left
                       ·simp only [Act.put, sA, sB, sC, sD, sE]; rfl
                       refine pure_ (i := 12) (N := some 68) (v := ?_) (a' := ?_) #[T,T,T,F,T,T,T,T,T,T,F,T,T,F,F,F,F,F,F,F,F,F,F,F] rfl rfl (any_of HT_.out (by kernel_rfl)) (fun _ _ _ h => h) (Or.inl ⟨by rfl, ?_⟩) ?_ ?_; rotate_left
                       ·intro w'; go_simp; with_reducible rfl
                       rotate_left
                       ·simp only [Act.put, sA, sB, sC, sD, sE]; rfl
                       refine pure_ (i := 13) (N := some 69) (v := ?_) (a' := ?_) #[T,T,T,F,T,T,T,T,T,T,F,T,T,T,F,F,F,F,F,F,F,F,F,F] rfl rfl (any_of HT_.out (by kernel_rfl)) (fun _ _ _ h => h) (Or.inl ⟨by rfl, ?_⟩) ?_ ?_; rotate_left
                       ·intro w'; go_simp; with_reducible rfl
                       rotate_left
                       ·simp only [Act.put, sA, sB, sC, sD, sE]; rfl
                       refine pure_ (i := 15) (N := some 71) (v := ?_) (a' := ?_) #[T,T,T,F,T,T,T,T,T,T,F,T,T,T,F,T,F,F,F,F,F,F,F,F] rfl rfl (any_of HT_.out (by kernel_rfl)) (fun _ _ _ h => h) (Or.inl ⟨by rfl, ?_⟩) ?_ ?_; rotate_left
                       ·intro w'; go_simp; with_reducible rfl
                       rotate_left
                       ·simp only [Act.put, sA, sB, sC, sD, sE]; rfl
                       refine pure_ (i := 16) (N := some 72) (v := ?_) (a' := ?_) #[T,T,T,F,T,T,T,T,T,T,F,T,T,T,F,T,T,F,F,F,F,F,F,F] rfl rfl (any_of HT_.out (by kernel_rfl)) (fun _ _ _ h => h) (Or.inl ⟨by rfl, ?_⟩) ?_ ?_; rotate_left
                       ·intro w'; go_simp; with_reducible rfl
                       rotate_left
                       ·simp only [Act.put, sA, sB, sC, sD, sE]; rfl
                       refine pure_ (i := 17) (N := some 73) (v := ?_) (a' := ?_) #[T,T,T,F,T,T,T,T,T,T,F,T,T,T,F,T,T,T,F,F,F,F,F,F] rfl rfl (any_of HT_.out (by kernel_rfl)) (fun _ _ _ h => h) (Or.inl ⟨by rfl, ?_⟩) ?_ ?_; rotate_left
                       ·intro w'; go_simp; with_reducible rfl
                       rotate_left
                       ·simp only [Act.put, sA, sB, sC, sD, sE]; rfl
                       refine pure_ (i := 18) (N := some 74) (v := ?_) (a' := ?_) #[T,T,T,F,T,T,T,T,T,T,F,T,T,T,F,T,T,T,T,F,F,F,F,F] rfl rfl (any_of HT_.out (by kernel_rfl)) (fun _ _ _ h => h) (Or.inl ⟨by rfl, ?_⟩) ?_ ?_; rotate_left
                       ·intro w'; go_simp; with_reducible rfl
                       rotate_left
                       ·simp only [Act.put, sA, sB, sC, sD, sE]; rfl
                       refine pure_ (i := 19) (N := some 75) (v := ?_) (a' := ?_) #[T,T,T,F,T,T,T,T,T,T,F,T,T,T,F,T,T,T,T,T,F,F,F,F] rfl rfl (any_of HT_.out (by kernel_rfl)) (fun _ _ _ h => h) (Or.inl ⟨by rfl, ?_⟩) ?_ ?_; rotate_left
                       ·intro w'; go_simp; with_reducible rfl
                       rotate_left
                       ·simp only [Act.put, sA, sB, sC, sD, sE]; rfl
                       refine pure_ (i := 20) (N := some 76) (v := ?_) (a' := ?_) #[T,T,T,F,T,T,T,T,T,T,F,T,T,T,F,T,T,T,T,T,T,F,F,F] rfl rfl (any_of HT_.out (by kernel_rfl)) (fun _ _ _ h => h) (Or.inl ⟨by rfl, ?_⟩) ?_ ?_; rotate_left
                       ·intro w'; go_simp; with_reducible rfl
                       rotate_left
                       ·simp only [Act.put, sA, sB, sC, sD, sE]; rfl
                       refine take_ (i := 3) (N := some 59) (v := ?_) (a' := ?_) #[T,T,T,T,T,T,T,T,T,T,F,T,T,T,F,T,T,T,T,T,T,F,F,F] rfl rfl (take_ofW HT_.out HW_.out (by kernel_rfl)) (fun _ _ _ h => h) (Or.inl ⟨by rfl, ?_⟩) hHeld ?_ ?_; rotate_left
                       ·rintro w' ⟨s0, s1, s2, s3, s4, s5, s6, s7⟩; go_simp; with_reducible rfl
                       rotate_left
                       ·simp only [Act.put, sA, sB, sC, sD, sE]; rfl
                       refine take_ (i := 10) (N := some 66) (v := ?_) (a' := ?_) #[T,T,T,T,T,T,T,T,T,T,T,T,T,T,F,T,T,T,T,T,T,F,F,F] rfl rfl (take_ofW HT_.out HW_.out (by kernel_rfl)) (fun _ _ _ h => h) (Or.inl ⟨by rfl, ?_⟩) hHeld ?_ ?_; rotate_left
                       ·rintro w' ⟨s0, s1, s2, s3, s4, s5, s6, s7⟩; go_simp; with_reducible rfl
                       rotate_left
                       ·simp only [Act.put, sA, sB, sC, sD, sE]; rfl
                       refine take_ (i := 14) (N := some 70) (v := ?_) (a' := ?_) #[T,T,T,T,T,T,T,T,T,T,T,T,T,T,T,T,T,T,T,T,T,F,F,F] rfl rfl (take_ofW HT_.out HW_.out (by kernel_rfl)) (fun _ _ _ h => h) (Or.inl ⟨by rfl, ?_⟩) hHeld ?_ ?_; rotate_left
                       ·rintro w' ⟨s0, s1, s2, s3, s4, s5, s6, s7⟩; go_simp; with_reducible rfl
                       rotate_left
                       ·simp only [Act.put, sA, sB, sC, sD, sE]; rfl
                       refine take_ (i := 21) (N := some 77) (v := ?_) (a' := ?_) #[T,T,T,T,T,T,T,T,T,T,T,T,T,T,T,T,T,T,T,T,T,T,F,F] rfl rfl (take_ofW HT_.out HW_.out (by kernel_rfl)) (fun _ _ _ h => h) (Or.inl ⟨by rfl, ?_⟩) hHeld ?_ ?_; rotate_left
                       ·rintro w' ⟨s0, s1, s2, s3, s4, s5, s6, s7⟩; go_simp; with_reducible rfl
                       rotate_left
                       ·simp only [Act.put, sA, sB, sC, sD, sE]; rfl
                       refine one_ (i := 22) (N := some 78) #[T,T,T,T,T,T,T,T,T,T,T,T,T,T,T,T,T,T,T,T,T,T,T,F] rfl rfl (one_of HT_.out (by kernel_rfl)) (by decide) (fun K hK => ?_); refine goes_ Try.func103 (by kernel_rfl) rfl #[.agg #[.int .i64 ((rd_T27 l0 x46_3).f0), .int .i64 ((rd_T27 l0 x46_3).f1)], .agg #[.int .i64 ((rd_T27 l0 (ji30)).f0), .int .i64 ((rd_T27 l0 (ji30)).f1)], .agg #[.int .i64 ((rd_T27 l0 x8_4).f0), .int .i64 ((rd_T27 l0 x8_4).f1)], .agg #[.int .i64 ((rd_T27 l0 (ji35)).f0), .int .i64 ((rd_T27 l0 (ji35)).f1)]] (by rfl) rfl rfl (by (try simp only [List.map_toArray, List.map_cons, List.map_nil]); first | done | (simp only [hji30, hji35]; rfl) | rfl | (simp only [List.length_drop, List.length_take]; rfl)) ?_
                       with_reducible refine (spec_l02Meet.calls ((rd_T27 l0 x46_3).f0) ((rd_T27 l0 x46_3).f1) ((rd_T27 l0 (ji30)).f0) ((rd_T27 l0 (ji30)).f1) ((rd_T27 l0 x8_4).f0) ((rd_T27 l0 x8_4).f1) ((rd_T27 l0 (ji35)).f0) ((rd_T27 l0 (ji35)).f1) t111 _ A38.out).mono ?_
                       rintro e w41 ⟨rfl, hb⟩; refine ⟨_, rfl, ?_⟩; have n0_ := Ak (below_step (by repeat (first | exact HB.out | apply bA | apply bD | apply bE)) hb); clear HB; have HB := n0_; clear n0_; (try clear hb); (try clear hb2); (try clear hk); (try clear hi); refine hK.out _ _ ⟨((HB.out.cell (World.block_lt_of_cell? w _ hw107_0)).trans hw107_0), ((HB.out.cell (World.block_lt_of_cell? w _ hw107_1)).trans hw107_1), ((HB.out.cell (World.block_lt_of_cell? w _ hw108_0)).trans hw108_0), ((HB.out.cell (World.block_lt_of_cell? w _ hw108_1)).trans hw108_1), ((HB.out.cell (World.block_lt_of_cell? w _ hw109_0)).trans hw109_0), ((HB.out.cell (World.block_lt_of_cell? w _ hw109_1)).trans hw109_1), ((HB.out.cell (World.block_lt_of_cell? w _ hw110_0)).trans hw110_0), ((HB.out.cell (World.block_lt_of_cell? w _ hw110_1)).trans hw110_1)⟩ (fun hHeld => ?_); clear hK K; refine norm_ (a' := ?_) ?_ ?_; rotate_left
                       ·show Act.put _ (some 78) _ = _; simp only [Act.put, sA, sB, sC, sD, sE]; rfl
                       refine pure_ (i := 23) (N := some 9) (v := ?_) (a' := ?_) #[T,T,T,T,T,T,T,T,T,T,T,T,T,T,T,T,T,T,T,T,T,T,T,T] rfl rfl (any_of HT_.out (by kernel_rfl)) (fun _ _ _ h => h) (Or.inl ⟨by rfl, ?_⟩) ?_ ?_; rotate_left
                       ·intro w'; go_simp; with_reducible rfl
                       rotate_left
                       ·simp only [Act.put, sA, sB, sC, sD, sE]; rfl
                       refine done_ (done_of HT_.out (by kernel_rfl)) ?_
                       go_upto_region 23 with (fail)
                       go_cut [92] (fun v92 wc => ∃ (kq : Nat) (x92_38 : Bool), v92 = .bool x92_38 ∧ Aside0 (spec_PolygonOk.j4 kq l0 (l0.length : Int) x46_3 x8_4 t111 (l0.length : Int) x46_3 x92_38 = some r) ∧ Aside0 (kq ≤ k4) ∧ Aside0 (Below w.heap.size w wc))
                       case first =>
                        have H := HC39.out; clear HC39
                        by_cases c42 : x8_4 = (wrap64 (x46_3 + 1))
                        ·rw [if_pos c42] at H; have c42b0 : (x8_4 == (wrap64 (x46_3 + 1))) = true := beq_iff_eq.mpr c42; have c42b1 : (x8_4 != (wrap64 (x46_3 + 1))) = false := bne_eq_false_iff_eq.mpr c42; clear c42
                         (first | rw [c42b0] | (simp only [i64_w, i32_w]; rw [c42b0]) | skip)
                         have H' := Ak H; clear H
                         go_wp2
                         go_meet
                         case rel => exact ⟨_, (true), (by first | rfl | (simp; done) | (simp [*]; done)), H', ⟨by have := HK1.out; have := HK2.out; have := HK3.out; have := HK4.out; first | omega | exact Nat.le_refl _⟩, ⟨by repeat (first | (with_reducible first | exact HB.out | apply bA | apply bD | apply bE) | exact HB.out)⟩⟩
                        ·rw [if_neg c42] at H; have c42b0 : (x8_4 == (wrap64 (x46_3 + 1))) = false := beq_eq_false_iff_ne.mpr c42; have c42b1 : (x8_4 != (wrap64 (x46_3 + 1))) = true := bne_iff_ne.mpr c42
                         (first | rw [c42b0] | (simp only [i64_w, i32_w]; rw [c42b0]) | skip)
                         by_cases c43 : x46_3 = 0
                         ·rw [if_pos c43] at H; have c43b0 : (x46_3 == 0) = true := beq_iff_eq.mpr c43; have c43b1 : (x46_3 != 0) = false := bne_eq_false_iff_eq.mpr c43; clear c43; have H' := Ak H; clear H
                          go_wp2
                          go_meet
                          case rel => exact ⟨_, ((x8_4 == (wrap64 ((l0.length : Int) - 1)))), (by first | rfl | (simp; done) | (simp [*]; done)), H', ⟨by have := HK1.out; have := HK2.out; have := HK3.out; have := HK4.out; first | omega | exact Nat.le_refl _⟩, ⟨by repeat (first | (with_reducible first | exact HB.out | apply bA | apply bD | apply bE) | exact HB.out)⟩⟩
                         ·rw [if_neg c43] at H; have c43b0 : (x46_3 == 0) = false := beq_eq_false_iff_ne.mpr c43; have c43b1 : (x46_3 != 0) = true := bne_iff_ne.mpr c43; have H' := Ak H; clear H
                          go_wp2
                          go_meet
                          case rel => exact ⟨_, (false), (by first | rfl | (simp; done) | (simp [*]; done)), H', ⟨by have := HK1.out; have := HK2.out; have := HK3.out; have := HK4.out; first | omega | exact Nat.le_refl _⟩, ⟨by repeat (first | (with_reducible first | exact HB.out | apply bA | apply bD | apply bE) | exact HB.out)⟩⟩
                       case rest =>
                        clear HC39
                        try clear c1
                        try clear p1
                        try clear q1
                        try clear hx1
                        try clear c2
                        try clear p2
                        try clear c3
                        try clear c4
                        try clear c4b0
                        try clear c5
                        try clear c5b0
                        try clear c6
                        try clear c6b0
                        try clear p6
                        try clear c7
                        try clear c8
                        try clear c10
                        try clear p10
                        try clear q10
                        try clear hx10
                        try clear p11
                        try clear q11
                        try clear hx11
                        try clear c15
                        try clear c15b0
                        try clear c16
                        try clear c16b0
                        try clear c17
                        try clear c17b0
                        try clear c18
                        try clear c18b0
                        try clear c18b1
                        try clear c18b2
                        try clear c20
                        try clear c20b0
                        try clear c21
                        try clear c21b0
                        try clear c22
                        try clear c22b0
                        try clear c22b1
                        try clear c22b2
                        try clear c25
                        try clear c25b0
                        try clear c26
                        try clear c26b0
                        try clear c27
                        try clear c27b0
                        try clear c28
                        try clear c28b0
                        try clear c29
                        try clear c29b0
                        try clear c29b1
                        try clear c29b2
                        try clear c31
                        try clear c31b0
                        try clear c32
                        try clear c32b0
                        try clear c33
                        try clear c33b0
                        try clear c34
                        try clear c34b0
                        try clear c36
                        try clear c36b0
                        try clear c37
                        try clear c37b0
                        try clear c42
                        try clear c42b0
                        try clear c42b1
                        try clear c43
                        try clear c43b0
                        try clear c43b1
                        try clear hcz10_0
                        try clear hcz10_1
                        try clear hcz13_0
                        try clear hcz13_1
                        try clear hfz10_0
                        try clear hfz10_1
                        try clear hfz13_0
                        try clear hfz13_1
                        try clear hx102_0
                        try clear hx102_1
                        try clear hx105_0
                        try clear hx105_1
                        try clear hx106_0
                        try clear hx106_1
                        try clear hx107_0
                        try clear hx107_1
                        try clear hx108_0
                        try clear hx108_1
                        try clear hx109_0
                        try clear hx109_1
                        try clear hx110_0
                        try clear hx110_1
                        try clear p1
                        try clear p10
                        try clear p102
                        try clear p105
                        try clear p106
                        try clear p107
                        try clear p108
                        try clear p109
                        try clear p110
                        try clear p2
                        try clear p6
                        try clear q1
                        try clear q10
                        try clear q102
                        try clear q105
                        try clear q106
                        try clear q107
                        try clear q108
                        try clear q109
                        try clear q110
                        obtain ⟨kq, x92_38, rfl, HA, HJ38, HB⟩ := hcut
                        cases kq with
                        | zero => exact absurd HA.out (by simp [spec_PolygonOk.j4])
                        | succ kj38 =>
                         have H := HA.out; clear HA; simp only [spec_PolygonOk.j4] at H
                         by_cases c44 : x92_38 = true
                         ·subst c44; have H1 : (if t111 = 1 then (spec_PolygonOk.l3 kj38 l0 (l0.length : Int) x46_3 (wrap64 (x8_4 + 1)) (l0.length : Int) x46_3) else (some false)) = some r := by rw [if_pos rfl] at H; exact H
                          clear H; have H := H1; clear H1
                          by_cases c45 : t111 = 1
                          ·rw [if_pos c45] at H; have c45b0 : (t111 == 1) = true := beq_iff_eq.mpr c45; have c45b1 : (t111 != 1) = false := bne_eq_false_iff_eq.mpr c45; clear c45; have H' := Ak H; clear H
                           go_wp2
                           go_roundg kj38
                           case measure => have := HK1.out; have := HK2.out; have := HK3.out; have := HK4.out; have := HJ38.out; omega
                           case rel => exact ⟨(wrap64 (x8_4 + 1)), (by first | rfl | (simp; done) | (simp [*]; done)), H', ⟨by have := HK1.out; have := HK2.out; have := HK3.out; have := HK4.out; have := HJ38.out; omega⟩, ⟨by repeat (first | (with_reducible first | exact HB.out | apply bA | apply bD | apply bE) | exact HB.out)⟩⟩
                          ·rw [if_neg c45] at H; have c45b0 : (t111 == 1) = false := beq_eq_false_iff_ne.mpr c45; have c45b1 : (t111 != 1) = true := bne_iff_ne.mpr c45; obtain rfl := Option.some.inj H
                           go_wp2
                           go_ret
                           exact ⟨by first | rfl | (simp [errW_none, errW_some] <;> rfl) | (simp only [← hji30, ← hji35]; first | rfl | (simp [errW_none, errW_some] <;> rfl)) | (simp [*, errW_none, errW_some] <;> rfl), by repeat (first | (with_reducible first | exact HB.out | apply bA | apply bD | apply bE) | exact HB.out)⟩
                         ·replace c44 := Bool.eq_false_iff.mpr c44; subst c44; have H1 : (if t111 = 0 then (spec_PolygonOk.l3 kj38 l0 (l0.length : Int) x46_3 (wrap64 (x8_4 + 1)) (l0.length : Int) x46_3) else (some false)) = some r := by rw [if_neg (show ¬ (false = true) by decide)] at H; exact H
                          clear H; have H := H1; clear H1
                          by_cases c46 : t111 = 0
                          ·rw [if_pos c46] at H; have c46b0 : (t111 == 0) = true := beq_iff_eq.mpr c46; have c46b1 : (t111 != 0) = false := bne_eq_false_iff_eq.mpr c46; clear c46; have H' := Ak H; clear H
                           go_wp2
                           go_roundg kj38
                           case measure => have := HK1.out; have := HK2.out; have := HK3.out; have := HK4.out; have := HJ38.out; omega
                           case rel => exact ⟨(wrap64 (x8_4 + 1)), (by first | rfl | (simp; done) | (simp [*]; done)), H', ⟨by have := HK1.out; have := HK2.out; have := HK3.out; have := HK4.out; have := HJ38.out; omega⟩, ⟨by repeat (first | (with_reducible first | exact HB.out | apply bA | apply bD | apply bE) | exact HB.out)⟩⟩
                          ·rw [if_neg c46] at H; have c46b0 : (t111 == 0) = false := beq_eq_false_iff_ne.mpr c46; have c46b1 : (t111 != 0) = true := bne_iff_ne.mpr c46; obtain rfl := Option.some.inj H
                           go_wp2
                           go_ret
                           exact ⟨by first | rfl | (simp [errW_none, errW_some] <;> rfl) | (simp only [← hji30, ← hji35]; first | rfl | (simp [errW_none, errW_some] <;> rfl)) | (simp [*, errW_none, errW_some] <;> rfl), by repeat (first | (with_reducible first | exact HB.out | apply bA | apply bD | apply bE) | exact HB.out)⟩
                      ·rw [if_neg c37] at H; exact absurd H (by simp)
                     ·rw [if_neg c36] at H; exact absurd H (by simp)
                    ·rw [if_neg c34] at H; exact absurd H (by simp)
                   ·rw [if_neg c33] at H; exact absurd H (by simp)
                  ·rw [if_neg c32] at H; exact absurd H (by simp)
                 ·rw [if_neg c31] at H; exact absurd H (by simp)
               ·rw [if_neg c28] at H; exact absurd H (by simp)
              ·rw [if_neg c27] at H; exact absurd H (by simp)
             ·rw [if_neg c26] at H; have c26b0 : decide (x8_4 < (l0.length : Int)) = false := decide_eq_false c26; clear c26; have H' := Ak H; clear H
              go_wp2
              go_roundg k4
              case measure => have := HK1.out; have := HK2.out; have := HK3.out; have := HK4.out; omega
              case rel => exact ⟨(wrap64 (x46_3 + 1)), (by first | rfl | (simp; done) | (simp [*]; done)), H', ⟨by have := HK1.out; have := HK2.out; have := HK3.out; have := HK4.out; omega⟩, ⟨by repeat (first | (with_reducible first | exact HB.out | apply bA | apply bD | apply bE) | exact HB.out)⟩⟩
          ·rw [if_neg c25] at H; have c25b0 : decide (x46_3 < (l0.length : Int)) = false := decide_eq_false c25; clear c25; obtain rfl := Option.some.inj H
           go_wp2
           go_ret
           exact ⟨by first | rfl | (simp [*, errW_none, errW_some] <;> rfl), by repeat (first | (with_reducible first | exact HB.out | apply bA | apply bD | apply bE) | exact HB.out)⟩
 ·replace c3 := Bool.eq_false_iff.mpr c3; subst c3; have H1 : (some false) = some r := by rw [if_neg (show ¬ (false = true) by decide)] at H; exact H
  clear H; have H := H1; clear H1; obtain rfl := Option.some.inj H
  go_enter Try.func70, Try.ntmps70
  go_wp2_with (first | ((with_reducible refine gate_callee (f := 101) rfl ?_); refine goesL_ (some 12) rfl rfl Try.func101 (by kernel_rfl) rfl #[.int .i64 (l0.length : Int), .int .i64 3, .int .i64 10] rfl (by (try simp only [List.map_toArray, List.map_cons, List.map_nil]); first | done | rfl | (simp only [List.length_drop, List.length_take]; rfl)) ?_; (with_reducible refine (spec_l01In.calls (l0.length : Int) 3 10 false _ A2.out).mono ?_); rintro e w' ⟨rfl, ⟨nd, rfl⟩⟩; refine ⟨_, rfl, ?_⟩))
  go_ret
  exact ⟨by first | rfl | (simp [*, errW_none, errW_some] <;> rfl), by repeat (first | (with_reducible first | exact HB.out | apply bA | apply bD | apply bE) | exact HB.out)⟩

end Go.Proofs.Ytlccpkggdmngaaa.G
