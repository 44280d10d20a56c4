/- A Go function as a plain Lean function, and the proof that Go's call comes to its answer. No conditions but those in the theorem. Written by gen.py (a program of this session over the kit's print). -/
-- SHRUNK by pack.py
import Derived.Test.YtlccpkggdmngaaaG0
import Derived.Test.YtlccpkggdmngaaaF103
import Derived.Test.YtlccpkggdmngaaaF105
import Derived.Test.YtlccpkggdmngaaaF106
import Derived.Test.YtlccpkggdmngaaaF89
namespace Go.Proofs.Ytlccpkggdmngaaa.G
open Go.RowKit Go.Proofs.YtlccpkggdmngaaaW.PrintWords Go.Proofs.YtlccpkggdmngaaaW.PrintLast Go.Proofs.YtlccpkggdmngaaaW.PrintMore Go.Proofs.YtlccpkggdmngaaaW.PrintBits
attribute [local go_sem] max2_int min2_int max_two min_two max_three min_three max_four min_four   -- for this text's walks alone
set_option linter.unusedVariables false
set_option linter.unusedSimpArgs false

/-! ### spec_l05Diagonal: function 83 -/
mutual
def spec_l05Diagonal.j0 : Nat → List (S27) → Int → Int → Int → Bool → Option (Bool)
 | 0, _, _, _, _, _ => none
 | k + 1, x0, x1, x2, x7, x34 => if x34 = true then (some false) else (if 0 ≤ x1 then (if x1 < (x0.length : Int) then (if 0 ≤ x2 then (if x2 < (x0.length : Int) then (spec_l05Diagonal.l0 k x0 x1 x2 x7 x0 (x0.length : Int) 0 ((rd_T27 x0 x1).f0) ((rd_T27 x0 x1).f1) ((rd_T27 x0 x2).f0) ((rd_T27 x0 x2).f1)) else (none)) else (none)) else (none)) else (none))
def spec_l05Diagonal.l0 : Nat → List (S27) → Int → Int → Int → List (S27) → Int → Int → Int → Int → Int → Int → Option (Bool)
 | 0, _, _, _, _, _, _, _, _, _, _, _ => none
 | k + 1, x0, x1, x2, x7, x43, x44, x45, x103000, x103001, x105000, x105001 => if x45 < x44 then (if 0 ≤ x45 then (if x45 < (x43.length : Int) then (if x7 = 0 then (none) else (if 0 ≤ (Int.tmod (wrap64 (x45 + 1)) x7) then (if (Int.tmod (wrap64 (x45 + 1)) x7) < (x0.length : Int) then ((spec_l02Meet.f x103000 x103001 x105000 x105001 ((rd_T27 x43 x45).f0) ((rd_T27 x43 x45).f1) ((rd_T27 x0 (Int.tmod (wrap64 (x45 + 1)) x7)).f0) ((rd_T27 x0 (Int.tmod (wrap64 (x45 + 1)) x7)).f1)).bind fun t113 => (if x45 = x1 then (spec_l05Diagonal.j2 k x0 x1 x2 x7 t113 x43 x44 x45 true x103000 x103001 x105000 x105001) else (if x45 = x2 then (spec_l05Diagonal.j2 k x0 x1 x2 x7 t113 x43 x44 x45 true x103000 x103001 x105000 x105001) else (if (Int.tmod (wrap64 (x45 + 1)) x7) = x1 then (spec_l05Diagonal.j2 k x0 x1 x2 x7 t113 x43 x44 x45 true x103000 x103001 x105000 x105001) else (spec_l05Diagonal.j2 k x0 x1 x2 x7 t113 x43 x44 x45 ((Int.tmod (wrap64 (x45 + 1)) x7) == x2) x103000 x103001 x105000 x105001))))) else (none)) else (none))) else (none)) else (none)) else ((spec_l05Double.f k x0).bind fun t105 => ((spec_l03Inside.f k t105 (wrap64 (x103000 + x105000)) (wrap64 (x103001 + x105001))).bind fun t108 => (some t108)))
def spec_l05Diagonal.j2 : Nat → List (S27) → Int → Int → Int → Int → List (S27) → Int → Int → Bool → Int → Int → Int → Int → Option (Bool)
 | 0, _, _, _, _, _, _, _, _, _, _, _, _, _ => none
 | k + 1, x0, x1, x2, x7, x13, x43, x44, x45, x85, x103000, x103001, x105000, x105001 => if x85 = true then (if x13 = 3 then (spec_l05Diagonal.j3 k x0 x1 x2 x7 x43 x44 x45 true x103000 x103001 x105000 x105001) else (spec_l05Diagonal.j3 k x0 x1 x2 x7 x43 x44 x45 (x13 == 2) x103000 x103001 x105000 x105001)) else (if x13 = 0 then (spec_l05Diagonal.l0 k x0 x1 x2 x7 x43 x44 (wrap64 (x45 + 1)) x103000 x103001 x105000 x105001) else (some false))
def spec_l05Diagonal.j3 : Nat → List (S27) → Int → Int → Int → List (S27) → Int → Int → Bool → Int → Int → Int → Int → Option (Bool)
 | 0, _, _, _, _, _, _, _, _, _, _, _, _ => none
 | k + 1, x0, x1, x2, x7, x43, x44, x45, x91, x103000, x103001, x105000, x105001 => if x91 = true then (some false) else (spec_l05Diagonal.l0 k x0 x1 x2 x7 x43 x44 (wrap64 (x45 + 1)) x103000 x103001 x105000 x105001)
end
def spec_l05Diagonal.f (k : Nat) (l0 : List (S27)) (a1 : Int) (a2 : Int) : Option (Bool) := if (l0.length : Int) = 0 then (none) else (if (Int.tmod (wrap64 (a1 + 1)) (l0.length : Int)) = a2 then (spec_l05Diagonal.j0 k l0 a1 a2 (l0.length : Int) true) else (if (Int.tmod (wrap64 (a2 + 1)) (l0.length : Int)) = a1 then (spec_l05Diagonal.j0 k l0 a1 a2 (l0.length : Int) true) else (spec_l05Diagonal.j0 k l0 a1 a2 (l0.length : Int) (a1 == a2))))
theorem spec_l05Diagonal.mono_l : ∀ k, (∀ y0 y1 y2 y3 y4, LeO (spec_l05Diagonal.j0 k y0 y1 y2 y3 y4) (spec_l05Diagonal.j0 (k + 1) y0 y1 y2 y3 y4)) ∧ (∀ y0 y1 y2 y3 y4 y5 y6 y7 y8 y9 y10, LeO (spec_l05Diagonal.l0 k y0 y1 y2 y3 y4 y5 y6 y7 y8 y9 y10) (spec_l05Diagonal.l0 (k + 1) y0 y1 y2 y3 y4 y5 y6 y7 y8 y9 y10)) ∧ (∀ y0 y1 y2 y3 y4 y5 y6 y7 y8 y9 y10 y11 y12, LeO (spec_l05Diagonal.j2 k y0 y1 y2 y3 y4 y5 y6 y7 y8 y9 y10 y11 y12) (spec_l05Diagonal.j2 (k + 1) y0 y1 y2 y3 y4 y5 y6 y7 y8 y9 y10 y11 y12)) ∧ (∀ y0 y1 y2 y3 y4 y5 y6 y7 y8 y9 y10 y11, LeO (spec_l05Diagonal.j3 k y0 y1 y2 y3 y4 y5 y6 y7 y8 y9 y10 y11) (spec_l05Diagonal.j3 (k + 1) y0 y1 y2 y3 y4 y5 y6 y7 y8 y9 y10 y11))
 | 0 => ⟨fun _ _ _ _ _ r h => by simp [spec_l05Diagonal.j0] at h, fun _ _ _ _ _ _ _ _ _ _ _ r h => by simp [spec_l05Diagonal.l0] at h, fun _ _ _ _ _ _ _ _ _ _ _ _ _ r h => by simp [spec_l05Diagonal.j2] at h, fun _ _ _ _ _ _ _ _ _ _ _ _ r h => by simp [spec_l05Diagonal.j3] at h⟩
 | k + 1 => by
  obtain ⟨ih0, ih1, ih2, ih3⟩ := spec_l05Diagonal.mono_l k
  refine ⟨?_, ?_, ?_, ?_⟩
  ·intro y0 y1 y2 y3 y4
   unfold spec_l05Diagonal.j0
   repeat' first
   | (with_reducible exact ih0 _ _ _ _ _)
   | (with_reducible exact ih1 _ _ _ _ _ _ _ _ _ _ _)
   | (with_reducible exact ih2 _ _ _ _ _ _ _ _ _ _ _ _ _)
   | (with_reducible exact ih3 _ _ _ _ _ _ _ _ _ _ _ _)
   | (with_reducible exact spec_l03Inside.mono _ _ _ _)
   | (with_reducible exact spec_l05Double.mono _ _)
   | (with_reducible exact LeO.refl _)
   | (with_reducible exact LeO.none _)
   | (with_reducible refine LeO.ite ?_ ?_)
   | (with_reducible refine LeO.bind ?_ (fun _ => ?_))
   | exact ih0 _ _ _ _ _
   | exact ih1 _ _ _ _ _ _ _ _ _ _ _
   | exact ih2 _ _ _ _ _ _ _ _ _ _ _ _ _
   | exact ih3 _ _ _ _ _ _ _ _ _ _ _ _
   | exact spec_l03Inside.mono _ _ _ _
   | exact spec_l05Double.mono _ _
   | exact LeO.none _
   | refine LeO.ite ?_ ?_
   | refine LeO.bind ?_ (fun _ => ?_)
  ·intro y0 y1 y2 y3 y4 y5 y6 y7 y8 y9 y10
   unfold spec_l05Diagonal.l0
   repeat' first
   | (with_reducible exact ih0 _ _ _ _ _)
   | (with_reducible exact ih1 _ _ _ _ _ _ _ _ _ _ _)
   | (with_reducible exact ih2 _ _ _ _ _ _ _ _ _ _ _ _ _)
   | (with_reducible exact ih3 _ _ _ _ _ _ _ _ _ _ _ _)
   | (with_reducible exact spec_l03Inside.mono _ _ _ _)
   | (with_reducible exact spec_l05Double.mono _ _)
   | (with_reducible exact LeO.refl _)
   | (with_reducible exact LeO.none _)
   | (with_reducible refine LeO.ite ?_ ?_)
   | (with_reducible refine LeO.bind ?_ (fun _ => ?_))
   | exact ih0 _ _ _ _ _
   | exact ih1 _ _ _ _ _ _ _ _ _ _ _
   | exact ih2 _ _ _ _ _ _ _ _ _ _ _ _ _
   | exact ih3 _ _ _ _ _ _ _ _ _ _ _ _
   | exact spec_l03Inside.mono _ _ _ _
   | exact spec_l05Double.mono _ _
   | exact LeO.none _
   | refine LeO.ite ?_ ?_
   | refine LeO.bind ?_ (fun _ => ?_)
  ·intro y0 y1 y2 y3 y4 y5 y6 y7 y8 y9 y10 y11 y12
   unfold spec_l05Diagonal.j2
   repeat' first
   | (with_reducible exact ih0 _ _ _ _ _)
   | (with_reducible exact ih1 _ _ _ _ _ _ _ _ _ _ _)
   | (with_reducible exact ih2 _ _ _ _ _ _ _ _ _ _ _ _ _)
   | (with_reducible exact ih3 _ _ _ _ _ _ _ _ _ _ _ _)
   | (with_reducible exact spec_l03Inside.mono _ _ _ _)
   | (with_reducible exact spec_l05Double.mono _ _)
   | (with_reducible exact LeO.refl _)
   | (with_reducible exact LeO.none _)
   | (with_reducible refine LeO.ite ?_ ?_)
   | (with_reducible refine LeO.bind ?_ (fun _ => ?_))
   | exact ih0 _ _ _ _ _
   | exact ih1 _ _ _ _ _ _ _ _ _ _ _
   | exact ih2 _ _ _ _ _ _ _ _ _ _ _ _ _
   | exact ih3 _ _ _ _ _ _ _ _ _ _ _ _
   | exact spec_l03Inside.mono _ _ _ _
   | exact spec_l05Double.mono _ _
   | exact LeO.none _
   | refine LeO.ite ?_ ?_
   | refine LeO.bind ?_ (fun _ => ?_)
  ·intro y0 y1 y2 y3 y4 y5 y6 y7 y8 y9 y10 y11
   unfold spec_l05Diagonal.j3
   repeat' first
   | (with_reducible exact ih0 _ _ _ _ _)
   | (with_reducible exact ih1 _ _ _ _ _ _ _ _ _ _ _)
   | (with_reducible exact ih2 _ _ _ _ _ _ _ _ _ _ _ _ _)
   | (with_reducible exact ih3 _ _ _ _ _ _ _ _ _ _ _ _)
   | (with_reducible exact spec_l03Inside.mono _ _ _ _)
   | (with_reducible exact spec_l05Double.mono _ _)
   | (with_reducible exact LeO.refl _)
   | (with_reducible exact LeO.none _)
   | (with_reducible refine LeO.ite ?_ ?_)
   | (with_reducible refine LeO.bind ?_ (fun _ => ?_))
   | exact ih0 _ _ _ _ _
   | exact ih1 _ _ _ _ _ _ _ _ _ _ _
   | exact ih2 _ _ _ _ _ _ _ _ _ _ _ _ _
   | exact ih3 _ _ _ _ _ _ _ _ _ _ _ _
   | exact spec_l03Inside.mono _ _ _ _
   | exact spec_l05Double.mono _ _
   | exact LeO.none _
   | refine LeO.ite ?_ ?_
   | refine LeO.bind ?_ (fun _ => ?_)
def spec_l05Diagonal.T17 : Bool × List (List Nat × List Nat) := (true, [([], []), ([0], [0]), ([], []), ([2], [2]), ([], []), ([4], [4]), ([3, 5], [3, 5]), ([], []), ([7], [7]), ([], []), ([9], [9]), ([8, 10], [8, 10]), ([6, 11], [6, 11]), ([1, 12, 1], [1, 12]), ([13, 13, 0, 1, 2, 3, 4, 5, 6, 7, 8, 9, 10, 11, 12, 13], [13])])
def spec_l05Diagonal.B17 : List Nat := [0, 1, 0, 4, 0, 16, 60, 0, 128, 0, 512, 1920, 4092, 8191, 16383]
theorem spec_l05Diagonal.tab17 : rtab .any (opsOf Try.f83 17) = spec_l05Diagonal.T17 := by kernel_rfl
theorem spec_l05Diagonal.bits17 : waitsOk spec_l05Diagonal.T17.2 spec_l05Diagonal.B17 = true := by kernel_rfl
set_option maxHeartbeats 8000000 in
set_option maxRecDepth 100000 in
theorem spec_l05Diagonal.calls (k : Nat) (A0 : Option Addr) (c0 : Nat) (l0 : List (S27)) (a1 : Int) (a2 : Int) (r : Bool) (w : World) (hr0 : Kd.C k27 w A0 l0.length l0) (hc0 : l0.length ≤ c0) (h : spec_l05Diagonal.f k l0 a1 a2 = some r) :
  Calls Try.prog 83 #[.slice A0 l0.length c0, .int .i64 a1, .int .i64 a2] w fun e w' => e = .returned (.bool r) ∧ Below w.heap.size w w' := by
 have hu27 := Try.underlying27; have HR0 := Ak hr0; have HC0 := Ak hc0; clear hr0 hc0; have HB := Ak (Below.refl w.heap.size w); have H : (if (l0.length : Int) = 0 then (none) else (if (Int.tmod (wrap64 (a1 + 1)) (l0.length : Int)) = a2 then (spec_l05Diagonal.j0 k l0 a1 a2 (l0.length : Int) true) else (if (Int.tmod (wrap64 (a2 + 1)) (l0.length : Int)) = a1 then (spec_l05Diagonal.j0 k l0 a1 a2 (l0.length : Int) true) else (spec_l05Diagonal.j0 k l0 a1 a2 (l0.length : Int) (a1 == a2))))) = some r := h; clear h; have HC4 := Ak H; clear H
 go_enter Try.func83, Try.ntmps83
 go_upto_region 2 with (fail)
 go_cut [34] (fun v34 wc => ∃ (kq : Nat) (x34_3 : Bool), v34 = .bool x34_3 ∧ Aside0 (spec_l05Diagonal.j0 kq l0 a1 a2 (l0.length : Int) x34_3 = some r) ∧ Aside0 (kq ≤ k) ∧ Aside0 (Below w.heap.size w wc))
 case first =>
  have H := HC4.out; clear HC4
  by_cases c5 : (l0.length : Int) = 0
  ·rw [if_pos c5] at H; exact absurd H (by simp)
  ·rw [if_neg c5] at H; have c5b0 : ((l0.length : Int) == 0) = false := beq_eq_false_iff_ne.mpr c5; have c5b1 : ((l0.length : Int) != 0) = true := bne_iff_ne.mpr c5; have c5b2 : ¬ (l0 = []) := fun h_ => c5 (by rw [h_]; rfl)
   (first | rw [c5b0] | (simp only [i64_w, i32_w]; rw [c5b0]) | skip)
   by_cases c6 : (Int.tmod (wrap64 (a1 + 1)) (l0.length : Int)) = a2
   ·rw [if_pos c6] at H; have c6b0 : ((Int.tmod (wrap64 (a1 + 1)) (l0.length : Int)) == a2) = true := beq_iff_eq.mpr c6; have c6b1 : ((Int.tmod (wrap64 (a1 + 1)) (l0.length : Int)) != a2) = false := bne_eq_false_iff_eq.mpr c6; clear c6; have H' := Ak H; clear H
    go_wp2
    go_meet
    case rel => exact ⟨_, (true), (by first | rfl | (simp; done) | (simp [*]; done)), H', ⟨by first | omega | exact Nat.le_refl _⟩, ⟨by repeat (first | (with_reducible first | exact HB.out | apply bA | apply bD | apply bE) | exact HB.out)⟩⟩
   ·rw [if_neg c6] at H; have c6b0 : ((Int.tmod (wrap64 (a1 + 1)) (l0.length : Int)) == a2) = false := beq_eq_false_iff_ne.mpr c6; have c6b1 : ((Int.tmod (wrap64 (a1 + 1)) (l0.length : Int)) != a2) = true := bne_iff_ne.mpr c6
    by_cases c7 : (Int.tmod (wrap64 (a2 + 1)) (l0.length : Int)) = a1
    ·rw [if_pos c7] at H; have c7b0 : ((Int.tmod (wrap64 (a2 + 1)) (l0.length : Int)) == a1) = true := beq_iff_eq.mpr c7; have c7b1 : ((Int.tmod (wrap64 (a2 + 1)) (l0.length : Int)) != a1) = false := bne_eq_false_iff_eq.mpr c7; clear c7; have H' := Ak H; clear H
     go_wp2
     go_meet
     case rel => exact ⟨_, (true), (by first | rfl | (simp; done) | (simp [*]; done)), H', ⟨by first | omega | exact Nat.le_refl _⟩, ⟨by repeat (first | (with_reducible first | exact HB.out | apply bA | apply bD | apply bE) | exact HB.out)⟩⟩
    ·rw [if_neg c7] at H; have c7b0 : ((Int.tmod (wrap64 (a2 + 1)) (l0.length : Int)) == a1) = false := beq_eq_false_iff_ne.mpr c7; have c7b1 : ((Int.tmod (wrap64 (a2 + 1)) (l0.length : Int)) != a1) = true := bne_iff_ne.mpr c7; have H' := Ak H; clear H
     go_wp2
     go_meet
     case rel => exact ⟨_, ((a1 == a2)), (by first | rfl | (simp; done) | (simp [*]; done)), H', ⟨by first | omega | exact Nat.le_refl _⟩, ⟨by repeat (first | (with_reducible first | exact HB.out | apply bA | apply bD | apply bE) | exact HB.out)⟩⟩
 case rest =>
  clear HC4
  try clear p2
  try clear c5
  try clear c5b0
  try clear c5b1
  try clear c5b2
  try clear c6
  try clear c6b0
  try clear c6b1
  try clear p6
  try clear c7
  try clear c7b0
  try clear c7b1
  obtain ⟨kq, x34_3, rfl, HA, HJ3, HB⟩ := hcut
  cases kq with
  | zero => exact absurd HA.out (by simp [spec_l05Diagonal.j0])
  | succ kj3 =>
   have H := HA.out; clear HA; simp only [spec_l05Diagonal.j0] at H
   by_cases c8 : x34_3 = true
   ·subst c8; have H1 : (some false) = some r := by rw [if_pos rfl] at H; exact H
    clear H; have H := H1; clear H1; obtain rfl := Option.some.inj H
    go_wp2
    go_ret
    exact ⟨by first | rfl | (simp [*, errW_none, errW_some] <;> rfl), by repeat (first | (with_reducible first | exact HB.out | apply bA | apply bD | apply bE) | exact HB.out)⟩
   ·replace c8 := Bool.eq_false_iff.mpr c8; subst c8; have H1 : (if 0 ≤ a1 then (if a1 < (l0.length : Int) then (if 0 ≤ a2 then (if a2 < (l0.length : Int) then (spec_l05Diagonal.l0 kj3 l0 a1 a2 (l0.length : Int) l0 (l0.length : Int) 0 ((rd_T27 l0 a1).f0) ((rd_T27 l0 a1).f1) ((rd_T27 l0 a2).f0) ((rd_T27 l0 a2).f1)) else (none)) else (none)) else (none)) else (none)) = some r := by rw [if_neg (show ¬ (false = true) by decide)] at H; exact H
    clear H; have H := H1; clear H1
    by_cases c9 : 0 ≤ a1
    ·rw [if_pos c9] at H; have c9b0 : decide (0 ≤ a1) = true := decide_eq_true c9; clear c9
     by_cases c10 : a1 < (l0.length : Int)
     ·rw [if_pos c10] at H; have c10b0 : decide (a1 < (l0.length : Int)) = true := decide_eq_true c10; clear c10
      by_cases c11 : 0 ≤ a2
      ·rw [if_pos c11] at H; have c11b0 : decide (0 ≤ a2) = true := decide_eq_true c11; clear c11
       by_cases c12 : a2 < (l0.length : Int)
       ·rw [if_pos c12] at H; have c12b0 : decide (a2 < (l0.length : Int)) = true := decide_eq_true c12; clear c12; have H' := Ak H; clear H; have p101 : 0 ≤ (a1 : Int) := of_decide_eq_true (by first | (with_reducible assumption) | assumption); have q101 : a1 < (l0.length : Int) := of_decide_eq_true (by first | (with_reducible assumption) | assumption); obtain ⟨ad101, e101, hx101_0, hx101_1⟩ := at_T27 HR0.out a1 p101 q101; cases e101; replace hx101_0 := cB HB.out hx101_0; replace hx101_1 := cB HB.out hx101_1; replace p101 := eq_true p101; replace q101 := eq_true q101
        go_wp2_with (first | ((with_reducible refine gate_dst (N := 8) rfl ?_); refine box_event ?hg (N := 8) ?hd (cs := #[.int .i64 0, .int .i64 0]) (t := 27) ?hr ?_; (case hd | hg => rfl); (case hr => first | (go_simp; done) | (go_simp; rfl)); intro gb102 hg w13 hbox hb; have n0_ := Ak (below_step (by repeat (first | exact HB.out | apply bA | apply bD | apply bE)) hb); have n1_ := Ak (hbox); have n2_ := Ak ((by rw [hg]; exact (below_size (by repeat (first | exact HB.out | apply bA | apply bD | apply bE))) : w.heap.size ≤ gb102)); have n3_ := n2_; clear HB; have HB := n0_; have BK102 := n1_; have GW102 := n2_; have GE102 := n3_; clear n0_ n1_ n2_ n3_; clear hb hbox hg; have hcz14_0 := b0 BK102.out; have hcz14_1 := b1 BK102.out; have hfz14_0 := blk_frozen BK102.out 0; have hfz14_1 := blk_frozen BK102.out 1; have p103 : 0 ≤ (a2 : Int) := of_decide_eq_true (by first | (with_reducible assumption) | assumption); have q103 : a2 < (l0.length : Int) := of_decide_eq_true (by first | (with_reducible assumption) | assumption); obtain ⟨ad103, e103, hx103_0, hx103_1⟩ := at_T27 HR0.out a2 p103 q103; obtain rfl : ad101 = ad103 := (by injection e103); have hn103_0 : ad101.block ≠ gb102 := Nat.ne_of_lt (Nat.lt_of_lt_of_le (by have := World.block_lt_of_cell? _ _ hx103_0; first | rwa [add_block] at this | exact this) GW102.out); have hn103_1 : ad101.block ≠ gb102 := Nat.ne_of_lt (Nat.lt_of_lt_of_le (by have := World.block_lt_of_cell? _ _ hx103_0; first | rwa [add_block] at this | exact this) GW102.out); replace hx103_0 := cB HB.out hx103_0; replace hx103_1 := cB HB.out hx103_1; replace hx103_0 := (cell_far (p := ⟨gb102, 0, none⟩) (by first | exact aB hn103_0 | exact hn103_0) (.int .i64 ((rd_T27 l0 a1).f0))).trans hx103_0; replace hx103_1 := (cell_far (p := ⟨gb102, 0, none⟩) (by first | exact aB hn103_0 | exact hn103_0) (.int .i64 ((rd_T27 l0 a1).f0))).trans hx103_1; replace hx103_0 := (cell_far (p := ⟨gb102, 1, none⟩) (by first | exact aB hn103_1 | exact hn103_1) (.int .i64 ((rd_T27 l0 a1).f1))).trans hx103_0; replace hx103_1 := (cell_far (p := ⟨gb102, 1, none⟩) (by first | exact aB hn103_1 | exact hn103_1) (.int .i64 ((rd_T27 l0 a1).f1))).trans hx103_1; clear hn103_0; clear hn103_1; replace p103 := eq_true p103; replace q103 := eq_true q103) | ((with_reducible refine gate_dst (N := 9) rfl ?_); refine box_event ?hg (N := 9) ?hd (cs := #[.int .i64 0, .int .i64 0]) (t := 27) ?hr ?_; (case hd | hg => rfl); (case hr => first | (go_simp; done) | (go_simp; rfl)); intro gb104 hg w15 hbox hb; have m0_ := bK (g := gb102) (o := .cells #[.int .i64 ((rd_T27 l0 a1).f0), .int .i64 ((rd_T27 l0 a1).f1)] 27 (0, 0)) (by refine blk_put (cs := #[.int .i64 ((rd_T27 l0 a1).f0), .int .i64 0]) ?_ 1 _ rfl; refine blk_put (cs := #[.int .i64 0, .int .i64 0]) ?_ 0 _ rfl; exact BK102.out) hb; have n0_ := Ak (blk_below m0_ hb); have n1_ := Ak (below_step (by repeat (first | exact HB.out | apply bA | apply bD | apply bE | refine below_set ?_ GE102.out)) hb); have n2_ := Ak (hbox); have n3_ := Ak ((by rw [hg]; exact (below_size (by repeat (first | exact HB.out | apply bA | apply bD | apply bE | refine below_set ?_ GE102.out))) : w.heap.size ≤ gb104)); have n4_ := n3_; have n5_ := Ak ((by rw [hg]; exact Nat.ne_of_lt (blk_lt m0_) : gb102 ≠ gb104)); have n6_ := Ak n5_.out.symm; clear BK102; clear HB; have BK102 := n0_; have HB := n1_; have BK104 := n2_; have GW104 := n3_; have GE104 := n4_; have NB102_104 := n5_; have NB104_102 := n6_; clear n0_ n1_ n2_ n3_ n4_ n5_ n6_; clear hb hbox hg; have hnb16 := NB104_102.out; have hnc16 := NB102_104.out; have hcz17_0 := b0 BK104.out; have hcz17_1 := b1 BK104.out; have hfz17_0 := blk_frozen BK104.out 0; have hfz17_1 := blk_frozen BK104.out 1))
        go_loopg [45] kj3 (fun kq v45 w' => ∃ (x45_2 : Int), v45 = .int .i64 x45_2 ∧ Aside0 (spec_l05Diagonal.l0 kq l0 a1 a2 (l0.length : Int) l0 (l0.length : Int) x45_2 ((rd_T27 l0 a1).f0) ((rd_T27 l0 a1).f1) ((rd_T27 l0 a2).f0) ((rd_T27 l0 a2).f1) = some r) ∧ Aside0 (kq ≤ kj3) ∧ Aside0 (w'.heap[gb102]? = some (.cells #[.int .i64 ((rd_T27 l0 a1).f0), .int .i64 ((rd_T27 l0 a1).f1)] 27 (0, 0))) ∧ Aside0 (w'.heap[gb104]? = some (.cells #[.int .i64 ((rd_T27 l0 a2).f0), .int .i64 ((rd_T27 l0 a2).f1)] 27 (0, 0))) ∧ Aside0 (Below w.heap.size w w'))
        case atStart => exact ⟨(0), (by first | rfl | (simp; done) | (simp [*]; done)), H', ⟨Nat.le_refl _⟩, ⟨by refine blk_far ?_ NB102_104.out _; refine blk_far ?_ NB102_104.out _; exact BK102.out⟩, ⟨by refine blk_put (cs := #[.int .i64 ((rd_T27 l0 a2).f0), .int .i64 0]) ?_ 1 _ rfl; refine blk_put (cs := #[.int .i64 0, .int .i64 0]) ?_ 0 _ rfl; exact BK104.out⟩, ⟨by repeat (first | (with_reducible first | exact HB.out | apply bA | apply bD | apply bE | refine below_set ?_ GE102.out | refine below_set ?_ GE104.out) | exact HB.out)⟩⟩
        case round =>
         clear H'
         try clear c1
         try clear p1
         try clear q1
         try clear hx1
         try clear p2
         try clear c5
         try clear c5b0
         try clear c5b1
         try clear c5b2
         try clear c6
         try clear c6b0
         try clear c6b1
         try clear p6
         try clear c7
         try clear c7b0
         try clear c7b1
         try clear c8
         try clear c9
         try clear c9b0
         try clear c10
         try clear c10b0
         try clear p10
         try clear q10
         try clear hx10
         try clear c11
         try clear c11b0
         try clear c12
         try clear c12b0
         try clear c16
         try clear hcz14_0
         try clear hcz14_1
         try clear hcz17_0
         try clear hcz17_1
         try clear hfz14_0
         try clear hfz14_1
         try clear hfz17_0
         try clear hfz17_1
         try clear hx101_0
         try clear hx101_1
         try clear hx103_0
         try clear hx103_1
         try clear p101
         try clear p103
         try clear p2
         try clear p6
         try clear q101
         try clear q103
         obtain ⟨x45_2, rfl, HA, HK2, BK102, BK104, HB⟩ := hrel
         cases gk with
         | zero => exact absurd HA.out (by simp [spec_l05Diagonal.l0])
         | succ k2 =>
          have H := HA.out; clear HA; simp only [spec_l05Diagonal.l0] at H
          by_cases c18 : x45_2 < (l0.length : Int)
          ·rw [if_pos c18] at H; have c18b0 : decide (x45_2 < (l0.length : Int)) = true := decide_eq_true c18; clear c18
           by_cases c19 : 0 ≤ x45_2
           ·rw [if_pos c19] at H; have c19b0 : decide (0 ≤ x45_2) = true := decide_eq_true c19; clear c19
            by_cases c20 : x45_2 < (l0.length : Int)
            ·rw [if_pos c20] at H; have c20b0 : decide (x45_2 < (l0.length : Int)) = true := decide_eq_true c20; clear c20
             by_cases c21 : (l0.length : Int) = 0
             ·rw [if_pos c21] at H; exact absurd H (by simp)
             ·rw [if_neg c21] at H; have c21b0 : ((l0.length : Int) == 0) = false := beq_eq_false_iff_ne.mpr c21; have c21b1 : ((l0.length : Int) != 0) = true := bne_iff_ne.mpr c21; have c21b2 : ¬ (l0 = []) := fun h_ => c21 (by rw [h_]; rfl)
              obtain ⟨ji22, hji22⟩ : ∃ j_ : Int, (Int.tmod (wrap64 (x45_2 + 1)) (l0.length : Int)) = j_ := ⟨_, rfl⟩; replace H : (if 0 ≤ (ji22) then (if (ji22) < (l0.length : Int) then ((spec_l02Meet.f ((rd_T27 l0 a1).f0) ((rd_T27 l0 a1).f1) ((rd_T27 l0 a2).f0) ((rd_T27 l0 a2).f1) ((rd_T27 l0 x45_2).f0) ((rd_T27 l0 x45_2).f1) ((rd_T27 l0 (ji22)).f0) ((rd_T27 l0 (ji22)).f1)).bind fun t113 => (if x45_2 = a1 then (spec_l05Diagonal.j2 k2 l0 a1 a2 (l0.length : Int) t113 l0 (l0.length : Int) x45_2 true ((rd_T27 l0 a1).f0) ((rd_T27 l0 a1).f1) ((rd_T27 l0 a2).f0) ((rd_T27 l0 a2).f1)) else (if x45_2 = a2 then (spec_l05Diagonal.j2 k2 l0 a1 a2 (l0.length : Int) t113 l0 (l0.length : Int) x45_2 true ((rd_T27 l0 a1).f0) ((rd_T27 l0 a1).f1) ((rd_T27 l0 a2).f0) ((rd_T27 l0 a2).f1)) else (if (ji22) = a1 then (spec_l05Diagonal.j2 k2 l0 a1 a2 (l0.length : Int) t113 l0 (l0.length : Int) x45_2 true ((rd_T27 l0 a1).f0) ((rd_T27 l0 a1).f1) ((rd_T27 l0 a2).f0) ((rd_T27 l0 a2).f1)) else (spec_l05Diagonal.j2 k2 l0 a1 a2 (l0.length : Int) t113 l0 (l0.length : Int) x45_2 ((ji22) == a2) ((rd_T27 l0 a1).f0) ((rd_T27 l0 a1).f1) ((rd_T27 l0 a2).f0) ((rd_T27 l0 a2).f1)))))) else (none)) else (none)) = some r := by first | (rw [hji22] at H; exact H) | (simp only [hji22] at H ⊢; exact H)
              by_cases c23 : 0 ≤ (ji22)
              ·rw [if_pos c23] at H; have c23b0 : decide (0 ≤ (ji22)) = true := decide_eq_true c23; clear c23
               by_cases c24 : (ji22) < (l0.length : Int)
               ·rw [if_pos c24] at H; have c24b0 : decide ((ji22) < (l0.length : Int)) = true := decide_eq_true c24; clear c24; replace H := Option.bind_eq_some_iff.mp H; obtain ⟨t113, A250, H⟩ := H; replace H : (if x45_2 = a1 then (spec_l05Diagonal.j2 k2 l0 a1 a2 (l0.length : Int) t113 l0 (l0.length : Int) x45_2 true ((rd_T27 l0 a1).f0) ((rd_T27 l0 a1).f1) ((rd_T27 l0 a2).f0) ((rd_T27 l0 a2).f1)) else (if x45_2 = a2 then (spec_l05Diagonal.j2 k2 l0 a1 a2 (l0.length : Int) t113 l0 (l0.length : Int) x45_2 true ((rd_T27 l0 a1).f0) ((rd_T27 l0 a1).f1) ((rd_T27 l0 a2).f0) ((rd_T27 l0 a2).f1)) else (if (ji22) = a1 then (spec_l05Diagonal.j2 k2 l0 a1 a2 (l0.length : Int) t113 l0 (l0.length : Int) x45_2 true ((rd_T27 l0 a1).f0) ((rd_T27 l0 a1).f1) ((rd_T27 l0 a2).f0) ((rd_T27 l0 a2).f1)) else (spec_l05Diagonal.j2 k2 l0 a1 a2 (l0.length : Int) t113 l0 (l0.length : Int) x45_2 ((ji22) == a2) ((rd_T27 l0 a1).f0) ((rd_T27 l0 a1).f1) ((rd_T27 l0 a2).f0) ((rd_T27 l0 a2).f1))))) = some r := H; have A25 := Ak A250; clear A250; have HC26 := Ak H; clear H; have p109 : 0 ≤ (x45_2 : Int) := of_decide_eq_true (by first | (with_reducible assumption) | assumption); have q109 : x45_2 < (l0.length : Int) := of_decide_eq_true (by first | (with_reducible assumption) | assumption); obtain ⟨ad109, e109, hx109_0, hx109_1⟩ := at_T27 HR0.out x45_2 p109 q109; obtain rfl : ad101 = ad109 := (by injection e109); replace hx109_0 := cB HB.out hx109_0; replace hx109_1 := cB HB.out hx109_1; replace p109 := eq_true p109; replace q109 := eq_true q109
                go_upto_region 11 with (first | ((with_reducible refine gate_dst (N := 11) rfl ?_); refine box_event ?hg (N := 11) ?hd (cs := #[.int .i64 0, .int .i64 0]) (t := 27) ?hr ?_; (case hd | hg => rfl); (case hr => first | (go_simp; done) | (go_simp; rfl)); intro gb110 hg w27 hbox hb; have m0_ := bK (g := gb102) (o := .cells #[.int .i64 ((rd_T27 l0 a1).f0), .int .i64 ((rd_T27 l0 a1).f1)] 27 (0, 0)) (by exact BK102.out) hb; have n0_ := Ak (blk_below m0_ hb); have m1_ := bK (g := gb104) (o := .cells #[.int .i64 ((rd_T27 l0 a2).f0), .int .i64 ((rd_T27 l0 a2).f1)] 27 (0, 0)) (by exact BK104.out) hb; have n1_ := Ak (blk_below m1_ hb); have n2_ := Ak (below_step (by repeat (first | exact HB.out | apply bA | apply bD | apply bE | refine below_set ?_ GE102.out | refine below_set ?_ GE104.out)) hb); have n3_ := Ak (hbox); have n4_ := Ak ((by rw [hg]; exact (below_size (by repeat (first | exact HB.out | apply bA | apply bD | apply bE | refine below_set ?_ GE102.out | refine below_set ?_ GE104.out))) : w.heap.size ≤ gb110)); have n5_ := n4_; have n6_ := Ak ((by rw [hg]; exact Nat.ne_of_lt (blk_lt m0_) : gb102 ≠ gb110)); have n7_ := Ak n6_.out.symm; have n8_ := Ak ((by rw [hg]; exact Nat.ne_of_lt (blk_lt m1_) : gb104 ≠ gb110)); have n9_ := Ak n8_.out.symm; clear BK102; clear BK104; clear HB; have BK102 := n0_; have BK104 := n1_; have HB := n2_; have BK110 := n3_; have GW110 := n4_; have GE110 := n5_; have NB102_110 := n6_; have NB110_102 := n7_; have NB104_110 := n8_; have NB110_104 := n9_; clear n0_ n1_ n2_ n3_ n4_ n5_ n6_ n7_ n8_ n9_; clear hb hbox hg; have hnb28 := NB110_102.out; have hnc28 := NB102_110.out; have hnb29 := NB110_104.out; have hnc29 := NB104_110.out; have hcz30_0 := b0 BK110.out; have hcz30_1 := b1 BK110.out; have hfz30_0 := blk_frozen BK110.out 0; have hfz30_1 := blk_frozen BK110.out 1; have p111 : 0 ≤ ((ji22) : Int) := of_decide_eq_true (by first | (with_reducible assumption) | assumption); have q111 : (ji22) < (l0.length : Int) := of_decide_eq_true (by first | (with_reducible assumption) | assumption); obtain ⟨ad111, e111, hx111_0, hx111_1⟩ := at_T27 HR0.out (ji22) p111 q111; obtain rfl : ad101 = ad111 := (by injection e111); have hn111_0 : ad101.block ≠ gb110 := Nat.ne_of_lt (Nat.lt_of_lt_of_le (by have := World.block_lt_of_cell? _ _ hx111_0; first | rwa [add_block] at this | exact this) GW110.out); have hn111_1 : ad101.block ≠ gb110 := Nat.ne_of_lt (Nat.lt_of_lt_of_le (by have := World.block_lt_of_cell? _ _ hx111_0; first | rwa [add_block] at this | exact this) GW110.out); replace hx111_0 := cB HB.out hx111_0; replace hx111_1 := cB HB.out hx111_1; replace hx111_0 := (cell_far (p := ⟨gb110, 0, none⟩) (by first | exact aB hn111_0 | exact hn111_0) (.int .i64 ((rd_T27 l0 x45_2).f0))).trans hx111_0; replace hx111_1 := (cell_far (p := ⟨gb110, 0, none⟩) (by first | exact aB hn111_0 | exact hn111_0) (.int .i64 ((rd_T27 l0 x45_2).f0))).trans hx111_1; replace hx111_0 := (cell_far (p := ⟨gb110, 1, none⟩) (by first | exact aB hn111_1 | exact hn111_1) (.int .i64 ((rd_T27 l0 x45_2).f1))).trans hx111_0; replace hx111_1 := (cell_far (p := ⟨gb110, 1, none⟩) (by first | exact aB hn111_1 | exact hn111_1) (.int .i64 ((rd_T27 l0 x45_2).f1))).trans hx111_1; clear hn111_0; clear hn111_1; replace p111 := eq_true p111; replace q111 := eq_true q111) | ((with_reducible refine gate_dst (N := 12) rfl ?_); refine box_event ?hg (N := 12) ?hd (cs := #[.int .i64 0, .int .i64 0]) (t := 27) ?hr ?_; (case hd | hg => rfl); (case hr => first | (go_simp; done) | (go_simp; rfl)); intro gb112 hg w31 hbox hb; have m0_ := bK (g := gb102) (o := .cells #[.int .i64 ((rd_T27 l0 a1).f0), .int .i64 ((rd_T27 l0 a1).f1)] 27 (0, 0)) (by refine blk_far ?_ NB102_110.out _; refine blk_far ?_ NB102_110.out _; exact BK102.out) hb; have n0_ := Ak (blk_below m0_ hb); have m1_ := bK (g := gb104) (o := .cells #[.int .i64 ((rd_T27 l0 a2).f0), .int .i64 ((rd_T27 l0 a2).f1)] 27 (0, 0)) (by refine blk_far ?_ NB104_110.out _; refine blk_far ?_ NB104_110.out _; exact BK104.out) hb; have n1_ := Ak (blk_below m1_ hb); have m2_ := bK (g := gb110) (o := .cells #[.int .i64 ((rd_T27 l0 x45_2).f0), .int .i64 ((rd_T27 l0 x45_2).f1)] 27 (0, 0)) (by refine blk_put (cs := #[.int .i64 ((rd_T27 l0 x45_2).f0), .int .i64 0]) ?_ 1 _ rfl; refine blk_put (cs := #[.int .i64 0, .int .i64 0]) ?_ 0 _ rfl; exact BK110.out) hb; have n2_ := Ak (blk_below m2_ hb); have n3_ := Ak (below_step (by repeat (first | exact HB.out | apply bA | apply bD | apply bE | refine below_set ?_ GE102.out | refine below_set ?_ GE104.out | refine below_set ?_ GE110.out)) hb); have n4_ := Ak (hbox); have n5_ := Ak ((by rw [hg]; exact (below_size (by repeat (first | exact HB.out | apply bA | apply bD | apply bE | refine below_set ?_ GE102.out | refine below_set ?_ GE104.out | refine below_set ?_ GE110.out))) : w.heap.size ≤ gb112)); have n6_ := n5_; have n7_ := Ak ((by rw [hg]; exact Nat.ne_of_lt (blk_lt m0_) : gb102 ≠ gb112)); have n8_ := Ak n7_.out.symm; have n9_ := Ak ((by rw [hg]; exact Nat.ne_of_lt (blk_lt m1_) : gb104 ≠ gb112)); have n10_ := Ak n9_.out.symm; have n11_ := Ak ((by rw [hg]; exact Nat.ne_of_lt (blk_lt m2_) : gb110 ≠ gb112)); have n12_ := Ak n11_.out.symm; clear BK102; clear BK104; clear BK110; clear HB; have BK102 := n0_; have BK104 := n1_; have BK110 := n2_; have HB := n3_; have BK112 := n4_; have GW112 := n5_; have GE112 := n6_; have NB102_112 := n7_; have NB112_102 := n8_; have NB104_112 := n9_; have NB112_104 := n10_; have NB110_112 := n11_; have NB112_110 := n12_; clear n0_ n1_ n2_ n3_ n4_ n5_ n6_ n7_ n8_ n9_ n10_ n11_ n12_; clear hb hbox hg; have hnb32 := NB112_102.out; have hnc32 := NB102_112.out; have hnb33 := NB112_104.out; have hnc33 := NB104_112.out; have hnb34 := NB112_110.out; have hnc34 := NB110_112.out; have hcz35_0 := b0 BK112.out; have hcz35_1 := b1 BK112.out; have hfz35_0 := blk_frozen BK112.out 0; have hfz35_1 := blk_frozen BK112.out 1; have hnb36 := NB102_104.out; have hnc36 := NB104_102.out; have hcz37_0 := b0 BK102.out; have hcz37_1 := b1 BK102.out; have hfz37_0 := blk_frozen BK102.out 0; have hfz37_1 := blk_frozen BK102.out 1; have hcz38_0 := b0 BK104.out; have hcz38_1 := b1 BK104.out; have hfz38_0 := blk_frozen BK104.out 0; have hfz38_1 := blk_frozen BK104.out 1; have hcz39_0 := b0 BK110.out; have hcz39_1 := b1 BK110.out; have hfz39_0 := blk_frozen BK110.out 0; have hfz39_1 := blk_frozen BK110.out 1) | ((with_reducible refine gate_callee (f := 103) rfl ?_); refine goesL_ (some 61) rfl rfl Try.func103 (by kernel_rfl) rfl #[.agg #[.int .i64 ((rd_T27 l0 a1).f0), .int .i64 ((rd_T27 l0 a1).f1)], .agg #[.int .i64 ((rd_T27 l0 a2).f0), .int .i64 ((rd_T27 l0 a2).f1)], .agg #[.int .i64 ((rd_T27 l0 x45_2).f0), .int .i64 ((rd_T27 l0 x45_2).f1)], .agg #[.int .i64 ((rd_T27 l0 (ji22)).f0), .int .i64 ((rd_T27 l0 (ji22)).f1)]] rfl (by (try simp only [List.map_toArray, List.map_cons, List.map_nil]); first | done | (simp only [hji22]; rfl) | rfl | (simp only [List.length_drop, List.length_take]; rfl)) ?_; (with_reducible refine (spec_l02Meet.calls ((rd_T27 l0 a1).f0) ((rd_T27 l0 a1).f1) ((rd_T27 l0 a2).f0) ((rd_T27 l0 a2).f1) ((rd_T27 l0 x45_2).f0) ((rd_T27 l0 x45_2).f1) ((rd_T27 l0 (ji22)).f0) ((rd_T27 l0 (ji22)).f1) t113 _ A25.out).mono ?_); rintro e w40 ⟨rfl, hb⟩; refine ⟨_, rfl, ?_⟩; have n0_ := Ak (blk_below (g := gb102) (o := .cells #[.int .i64 ((rd_T27 l0 a1).f0), .int .i64 ((rd_T27 l0 a1).f1)] 27 (0, 0)) (by refine blk_far ?_ NB102_112.out _; refine blk_far ?_ NB102_112.out _; exact BK102.out) hb); have n1_ := Ak (blk_below (g := gb104) (o := .cells #[.int .i64 ((rd_T27 l0 a2).f0), .int .i64 ((rd_T27 l0 a2).f1)] 27 (0, 0)) (by refine blk_far ?_ NB104_112.out _; refine blk_far ?_ NB104_112.out _; exact BK104.out) hb); have n2_ := Ak (blk_below (g := gb110) (o := .cells #[.int .i64 ((rd_T27 l0 x45_2).f0), .int .i64 ((rd_T27 l0 x45_2).f1)] 27 (0, 0)) (by refine blk_far ?_ NB110_112.out _; refine blk_far ?_ NB110_112.out _; exact BK110.out) hb); have n3_ := Ak (blk_below (g := gb112) (o := .cells #[.int .i64 ((rd_T27 l0 (ji22)).f0), .int .i64 ((rd_T27 l0 (ji22)).f1)] 27 (0, 0)) (by refine blk_put (cs := #[.int .i64 ((rd_T27 l0 (ji22)).f0), .int .i64 0]) ?_ 1 _ rfl; refine blk_put (cs := #[.int .i64 0, .int .i64 0]) ?_ 0 _ rfl; exact BK112.out) hb); have n4_ := Ak (below_step (by repeat (first | exact HB.out | apply bA | apply bD | apply bE | refine below_set ?_ GE102.out | refine below_set ?_ GE104.out | refine below_set ?_ GE110.out | refine below_set ?_ GE112.out)) hb); clear BK102; clear BK104; clear BK110; clear BK112; clear HB; have BK102 := n0_; have BK104 := n1_; have BK110 := n2_; have BK112 := n3_; have HB := n4_; clear n0_ n1_ n2_ n3_ n4_; (try clear hb); (try clear hb2); (try clear hk); (try clear hi)))
                (try simp only [Act.put, List.setIfInBounds_toArray, List.set_cons_zero, List.set_cons_succ])
                go_cut [85] (fun v85 wc => ∃ (kq : Nat) (x85_25 : Bool), v85 = .bool x85_25 ∧ Aside0 (spec_l05Diagonal.j2 kq l0 a1 a2 (l0.length : Int) t113 l0 (l0.length : Int) x45_2 x85_25 ((rd_T27 l0 a1).f0) ((rd_T27 l0 a1).f1) ((rd_T27 l0 a2).f0) ((rd_T27 l0 a2).f1) = some r) ∧ Aside0 (kq ≤ k2) ∧ Aside0 (wc.heap[gb102]? = some (.cells #[.int .i64 ((rd_T27 l0 a1).f0), .int .i64 ((rd_T27 l0 a1).f1)] 27 (0, 0))) ∧ Aside0 (wc.heap[gb104]? = some (.cells #[.int .i64 ((rd_T27 l0 a2).f0), .int .i64 ((rd_T27 l0 a2).f1)] 27 (0, 0))) ∧ Aside0 (wc.heap[gb110]? = some (.cells #[.int .i64 ((rd_T27 l0 x45_2).f0), .int .i64 ((rd_T27 l0 x45_2).f1)] 27 (0, 0))) ∧ Aside0 (wc.heap[gb112]? = some (.cells #[.int .i64 ((rd_T27 l0 (ji22)).f0), .int .i64 ((rd_T27 l0 (ji22)).f1)] 27 (0, 0))) ∧ Aside0 (Below w.heap.size w wc))
                case first =>
                 have H := HC26.out; clear HC26
                 by_cases c41 : x45_2 = a1
                 ·rw [if_pos c41] at H; have c41b0 : (x45_2 == a1) = true := beq_iff_eq.mpr c41; have c41b1 : (x45_2 != a1) = false := bne_eq_false_iff_eq.mpr c41; clear c41
                  (first | rw [c41b0] | (simp only [i64_w, i32_w]; rw [c41b0]) | skip)
                  have H' := Ak H; clear H
                  go_wp2
                  go_meet
                  case rel => exact ⟨_, (true), (by first | rfl | (simp; done) | (simp [*]; done)), H', ⟨by have := HJ3.out; have := HK2.out; first | omega | exact Nat.le_refl _⟩, ⟨by exact BK102.out⟩, ⟨by exact BK104.out⟩, ⟨by exact BK110.out⟩, ⟨by exact BK112.out⟩, ⟨by repeat (first | (with_reducible first | exact HB.out | apply bA | apply bD | apply bE | refine below_set ?_ GE102.out | refine below_set ?_ GE104.out | refine below_set ?_ GE110.out | refine below_set ?_ GE112.out) | exact HB.out)⟩⟩
                 ·rw [if_neg c41] at H; have c41b0 : (x45_2 == a1) = false := beq_eq_false_iff_ne.mpr c41; have c41b1 : (x45_2 != a1) = true := bne_iff_ne.mpr c41
                  (first | rw [c41b0] | (simp only [i64_w, i32_w]; rw [c41b0]) | skip)
                  by_cases c42 : x45_2 = a2
                  ·rw [if_pos c42] at H; have c42b0 : (x45_2 == a2) = true := beq_iff_eq.mpr c42; have c42b1 : (x45_2 != a2) = false := bne_eq_false_iff_eq.mpr c42; clear c42; have H' := Ak H; clear H
                   go_wp2
                   go_meet
                   case rel => exact ⟨_, (true), (by first | rfl | (simp; done) | (simp [*]; done)), H', ⟨by have := HJ3.out; have := HK2.out; first | omega | exact Nat.le_refl _⟩, ⟨by exact BK102.out⟩, ⟨by exact BK104.out⟩, ⟨by exact BK110.out⟩, ⟨by exact BK112.out⟩, ⟨by repeat (first | (with_reducible first | exact HB.out | apply bA | apply bD | apply bE | refine below_set ?_ GE102.out | refine below_set ?_ GE104.out | refine below_set ?_ GE110.out | refine below_set ?_ GE112.out) | exact HB.out)⟩⟩
                  ·rw [if_neg c42] at H; have c42b0 : (x45_2 == a2) = false := beq_eq_false_iff_ne.mpr c42; have c42b1 : (x45_2 != a2) = true := bne_iff_ne.mpr c42
                   by_cases c43 : (ji22) = a1
                   ·rw [if_pos c43] at H; have c43b0 : ((ji22) == a1) = true := beq_iff_eq.mpr c43; have c43b1 : ((ji22) != a1) = false := bne_eq_false_iff_eq.mpr c43; clear c43; have H' := Ak H; clear H
                    go_wp2
                    go_meet
                    case rel => exact ⟨_, (true), (by first | rfl | (simp; done) | (simp [*]; done)), H', ⟨by have := HJ3.out; have := HK2.out; first | omega | exact Nat.le_refl _⟩, ⟨by exact BK102.out⟩, ⟨by exact BK104.out⟩, ⟨by exact BK110.out⟩, ⟨by exact BK112.out⟩, ⟨by repeat (first | (with_reducible first | exact HB.out | apply bA | apply bD | apply bE | refine below_set ?_ GE102.out | refine below_set ?_ GE104.out | refine below_set ?_ GE110.out | refine below_set ?_ GE112.out) | exact HB.out)⟩⟩
                   ·rw [if_neg c43] at H; have c43b0 : ((ji22) == a1) = false := beq_eq_false_iff_ne.mpr c43; have c43b1 : ((ji22) != a1) = true := bne_iff_ne.mpr c43; have H' := Ak H; clear H
                    go_wp2
                    go_meet
                    case rel => exact ⟨_, (((ji22) == a2)), (by first | rfl | (simp; done) | (simp only [← hji22] <;> (first | rfl | simp)) | (simp [*]; done)), H', ⟨by have := HJ3.out; have := HK2.out; first | omega | exact Nat.le_refl _⟩, ⟨by exact BK102.out⟩, ⟨by exact BK104.out⟩, ⟨by exact BK110.out⟩, ⟨by exact BK112.out⟩, ⟨by repeat (first | (with_reducible first | exact HB.out | apply bA | apply bD | apply bE | refine below_set ?_ GE102.out | refine below_set ?_ GE104.out | refine below_set ?_ GE110.out | refine below_set ?_ GE112.out) | exact HB.out)⟩⟩
                case rest =>
                 clear HC26
                 try clear c1
                 try clear p1
                 try clear q1
                 try clear hx1
                 try clear c2
                 try clear p2
                 try clear c3
                 try clear c4
                 try clear c5
                 try clear c5b0
                 try clear c5b1
                 try clear c5b2
                 try clear c6
                 try clear c6b0
                 try clear c6b1
                 try clear p6
                 try clear c7
                 try clear c7b0
                 try clear c7b1
                 try clear c8
                 try clear c9
                 try clear c9b0
                 try clear c10
                 try clear c10b0
                 try clear p10
                 try clear q10
                 try clear hx10
                 try clear c11
                 try clear c11b0
                 try clear p11
                 try clear q11
                 try clear hx11
                 try clear c12
                 try clear c12b0
                 try clear c16
                 try clear c18
                 try clear c18b0
                 try clear c19
                 try clear c19b0
                 try clear c20
                 try clear c20b0
                 try clear c21
                 try clear c21b0
                 try clear c21b1
                 try clear c21b2
                 try clear c23
                 try clear c23b0
                 try clear c24
                 try clear c24b0
                 try clear c28
                 try clear c29
                 try clear c32
                 try clear c33
                 try clear c34
                 try clear c36
                 try clear c41
                 try clear c41b0
                 try clear c41b1
                 try clear c42
                 try clear c42b0
                 try clear c42b1
                 try clear c43
                 try clear c43b0
                 try clear c43b1
                 try clear hcz14_0
                 try clear hcz14_1
                 try clear hcz17_0
                 try clear hcz17_1
                 try clear hcz30_0
                 try clear hcz30_1
                 try clear hcz35_0
                 try clear hcz35_1
                 try clear hcz37_0
                 try clear hcz37_1
                 try clear hcz38_0
                 try clear hcz38_1
                 try clear hcz39_0
                 try clear hcz39_1
                 try clear hfz14_0
                 try clear hfz14_1
                 try clear hfz17_0
                 try clear hfz17_1
                 try clear hfz30_0
                 try clear hfz30_1
                 try clear hfz35_0
                 try clear hfz35_1
                 try clear hfz37_0
                 try clear hfz37_1
                 try clear hfz38_0
                 try clear hfz38_1
                 try clear hfz39_0
                 try clear hfz39_1
                 try clear hx101_0
                 try clear hx101_1
                 try clear hx103_0
                 try clear hx103_1
                 try clear hx109_0
                 try clear hx109_1
                 try clear hx111_0
                 try clear hx111_1
                 try clear p1
                 try clear p10
                 try clear p101
                 try clear p103
                 try clear p109
                 try clear p111
                 try clear p2
                 try clear p6
                 try clear q1
                 try clear q10
                 try clear q101
                 try clear q103
                 try clear q109
                 try clear q111
                 obtain ⟨kq, x85_25, rfl, HA, HJ25, BK102, BK104, BK110, BK112, HB⟩ := hcut
                 cases kq with
                 | zero => exact absurd HA.out (by simp [spec_l05Diagonal.j2])
                 | succ kj25 =>
                  have H := HA.out; clear HA; simp only [spec_l05Diagonal.j2] at H
                  by_cases c44 : x85_25 = true
                  ·subst c44; have H1 : (if t113 = 3 then (spec_l05Diagonal.j3 kj25 l0 a1 a2 (l0.length : Int) l0 (l0.length : Int) x45_2 true ((rd_T27 l0 a1).f0) ((rd_T27 l0 a1).f1) ((rd_T27 l0 a2).f0) ((rd_T27 l0 a2).f1)) else (spec_l05Diagonal.j3 kj25 l0 a1 a2 (l0.length : Int) l0 (l0.length : Int) x45_2 (t113 == 2) ((rd_T27 l0 a1).f0) ((rd_T27 l0 a1).f1) ((rd_T27 l0 a2).f0) ((rd_T27 l0 a2).f1))) = some r := by rw [if_pos rfl] at H; exact H
                   clear H; have H := H1; clear H1; have HC45 := Ak H; clear H
                   go_upto_region 12 with (fail)
                   go_cut [91] (fun v91 wc => ∃ (kq : Nat) (x91_44 : Bool), v91 = .bool x91_44 ∧ Aside0 (spec_l05Diagonal.j3 kq l0 a1 a2 (l0.length : Int) l0 (l0.length : Int) x45_2 x91_44 ((rd_T27 l0 a1).f0) ((rd_T27 l0 a1).f1) ((rd_T27 l0 a2).f0) ((rd_T27 l0 a2).f1) = some r) ∧ Aside0 (kq ≤ kj25) ∧ Aside0 (wc.heap[gb102]? = some (.cells #[.int .i64 ((rd_T27 l0 a1).f0), .int .i64 ((rd_T27 l0 a1).f1)] 27 (0, 0))) ∧ Aside0 (wc.heap[gb104]? = some (.cells #[.int .i64 ((rd_T27 l0 a2).f0), .int .i64 ((rd_T27 l0 a2).f1)] 27 (0, 0))) ∧ Aside0 (wc.heap[gb110]? = some (.cells #[.int .i64 ((rd_T27 l0 x45_2).f0), .int .i64 ((rd_T27 l0 x45_2).f1)] 27 (0, 0))) ∧ Aside0 (wc.heap[gb112]? = some (.cells #[.int .i64 ((rd_T27 l0 (ji22)).f0), .int .i64 ((rd_T27 l0 (ji22)).f1)] 27 (0, 0))) ∧ Aside0 (Below w.heap.size w wc))
                   case first =>
                    have H := HC45.out; clear HC45
                    by_cases c46 : t113 = 3
                    ·rw [if_pos c46] at H; have c46b0 : (t113 == 3) = true := beq_iff_eq.mpr c46; have c46b1 : (t113 != 3) = false := bne_eq_false_iff_eq.mpr c46; clear c46
                     (first | rw [c46b0] | (simp only [i64_w, i32_w]; rw [c46b0]) | skip)
                     have H' := Ak H; clear H
                     go_wp2
                     go_meet
                     case rel => exact ⟨_, (true), (by first | rfl | (simp; done) | (simp [*]; done)), H', ⟨by have := HJ3.out; have := HK2.out; have := HJ25.out; first | omega | exact Nat.le_refl _⟩, ⟨by exact BK102.out⟩, ⟨by exact BK104.out⟩, ⟨by exact BK110.out⟩, ⟨by exact BK112.out⟩, ⟨by repeat (first | (with_reducible first | exact HB.out | apply bA | apply bD | apply bE | refine below_set ?_ GE102.out | refine below_set ?_ GE104.out | refine below_set ?_ GE110.out | refine below_set ?_ GE112.out) | exact HB.out)⟩⟩
                    ·rw [if_neg c46] at H; have c46b0 : (t113 == 3) = false := beq_eq_false_iff_ne.mpr c46; have c46b1 : (t113 != 3) = true := bne_iff_ne.mpr c46
                     (first | rw [c46b0] | (simp only [i64_w, i32_w]; rw [c46b0]) | skip)
                     have H' := Ak H; clear H
                     go_wp2
                     go_meet
                     case rel => exact ⟨_, ((t113 == 2)), (by first | rfl | (simp; done) | (simp [*]; done)), H', ⟨by have := HJ3.out; have := HK2.out; have := HJ25.out; first | omega | exact Nat.le_refl _⟩, ⟨by exact BK102.out⟩, ⟨by exact BK104.out⟩, ⟨by exact BK110.out⟩, ⟨by exact BK112.out⟩, ⟨by repeat (first | (with_reducible first | exact HB.out | apply bA | apply bD | apply bE | refine below_set ?_ GE102.out | refine below_set ?_ GE104.out | refine below_set ?_ GE110.out | refine below_set ?_ GE112.out) | exact HB.out)⟩⟩
                   case rest =>
                    clear HC45
                    try clear c1
                    try clear p1
                    try clear q1
                    try clear hx1
                    try clear c2
                    try clear p2
                    try clear c3
                    try clear c4
                    try clear c5
                    try clear c5b0
                    try clear c5b1
                    try clear c5b2
                    try clear c6
                    try clear c6b0
                    try clear c6b1
                    try clear p6
                    try clear c7
                    try clear c7b0
                    try clear c7b1
                    try clear c8
                    try clear c9
                    try clear c9b0
                    try clear c10
                    try clear c10b0
                    try clear p10
                    try clear q10
                    try clear hx10
                    try clear c11
                    try clear c11b0
                    try clear p11
                    try clear q11
                    try clear hx11
                    try clear c12
                    try clear c12b0
                    try clear c16
                    try clear c18
                    try clear c18b0
                    try clear c19
                    try clear c19b0
                    try clear c20
                    try clear c20b0
                    try clear c21
                    try clear c21b0
                    try clear c21b1
                    try clear c21b2
                    try clear c23
                    try clear c23b0
                    try clear c24
                    try clear c24b0
                    try clear c28
                    try clear c29
                    try clear c32
                    try clear c33
                    try clear c34
                    try clear c36
                    try clear c41
                    try clear c41b0
                    try clear c41b1
                    try clear c42
                    try clear c42b0
                    try clear c42b1
                    try clear c43
                    try clear c43b0
                    try clear c43b1
                    try clear c44
                    try clear c46
                    try clear c46b0
                    try clear c46b1
                    try clear hcz14_0
                    try clear hcz14_1
                    try clear hcz17_0
                    try clear hcz17_1
                    try clear hcz30_0
                    try clear hcz30_1
                    try clear hcz35_0
                    try clear hcz35_1
                    try clear hcz37_0
                    try clear hcz37_1
                    try clear hcz38_0
                    try clear hcz38_1
                    try clear hcz39_0
                    try clear hcz39_1
                    try clear hfz14_0
                    try clear hfz14_1
                    try clear hfz17_0
                    try clear hfz17_1
                    try clear hfz30_0
                    try clear hfz30_1
                    try clear hfz35_0
                    try clear hfz35_1
                    try clear hfz37_0
                    try clear hfz37_1
                    try clear hfz38_0
                    try clear hfz38_1
                    try clear hfz39_0
                    try clear hfz39_1
                    try clear hx101_0
                    try clear hx101_1
                    try clear hx103_0
                    try clear hx103_1
                    try clear hx109_0
                    try clear hx109_1
                    try clear hx111_0
                    try clear hx111_1
                    try clear p1
                    try clear p10
                    try clear p101
                    try clear p103
                    try clear p109
                    try clear p11
                    try clear p111
                    try clear p2
                    try clear p6
                    try clear q1
                    try clear q10
                    try clear q101
                    try clear q103
                    try clear q109
                    try clear q11
                    try clear q111
                    obtain ⟨kq, x91_44, rfl, HA, HJ44, BK102, BK104, BK110, BK112, HB⟩ := hcut
                    cases kq with
                    | zero => exact absurd HA.out (by simp [spec_l05Diagonal.j3])
                    | succ kj44 =>
                     have H := HA.out; clear HA; simp only [spec_l05Diagonal.j3] at H
                     by_cases c47 : x91_44 = true
                     ·subst c47; have H1 : (some false) = some r := by rw [if_pos rfl] at H; exact H
                      clear H; have H := H1; clear H1; obtain rfl := Option.some.inj H
                      go_wp2
                      go_ret
                      exact ⟨by first | rfl | (simp [errW_none, errW_some] <;> rfl) | (simp only [← hji22]; first | rfl | (simp [errW_none, errW_some] <;> rfl)) | (simp [*, errW_none, errW_some] <;> rfl), by repeat (first | (with_reducible first | exact HB.out | apply bA | apply bD | apply bE | refine below_set ?_ GE102.out | refine below_set ?_ GE104.out | refine below_set ?_ GE110.out | refine below_set ?_ GE112.out) | exact HB.out)⟩
                     ·replace c47 := Bool.eq_false_iff.mpr c47; subst c47; have H1 : (spec_l05Diagonal.l0 kj44 l0 a1 a2 (l0.length : Int) l0 (l0.length : Int) (wrap64 (x45_2 + 1)) ((rd_T27 l0 a1).f0) ((rd_T27 l0 a1).f1) ((rd_T27 l0 a2).f0) ((rd_T27 l0 a2).f1)) = some r := by rw [if_neg (show ¬ (false = true) by decide)] at H; exact H
                      clear H; have H := H1; clear H1; have H' := Ak H; clear H
                      go_wp2
                      go_roundg kj44
                      case measure => have := HJ3.out; have := HK2.out; have := HJ25.out; have := HJ44.out; omega
                      case rel => exact ⟨(wrap64 (x45_2 + 1)), (by first | rfl | (simp; done) | (simp [*]; done)), H', ⟨by have := HJ3.out; have := HK2.out; have := HJ25.out; have := HJ44.out; omega⟩, ⟨by exact BK102.out⟩, ⟨by exact BK104.out⟩, ⟨by repeat (first | (with_reducible first | exact HB.out | apply bA | apply bD | apply bE | refine below_set ?_ GE102.out | refine below_set ?_ GE104.out | refine below_set ?_ GE110.out | refine below_set ?_ GE112.out) | exact HB.out)⟩⟩
                  ·replace c44 := Bool.eq_false_iff.mpr c44; subst c44; have H1 : (if t113 = 0 then (spec_l05Diagonal.l0 kj25 l0 a1 a2 (l0.length : Int) l0 (l0.length : Int) (wrap64 (x45_2 + 1)) ((rd_T27 l0 a1).f0) ((rd_T27 l0 a1).f1) ((rd_T27 l0 a2).f0) ((rd_T27 l0 a2).f1)) else (some false)) = some r := by rw [if_neg (show ¬ (false = true) by decide)] at H; exact H
                   clear H; have H := H1; clear H1
                   by_cases c48 : t113 = 0
                   ·rw [if_pos c48] at H; have c48b0 : (t113 == 0) = true := beq_iff_eq.mpr c48; have c48b1 : (t113 != 0) = false := bne_eq_false_iff_eq.mpr c48; clear c48; have H' := Ak H; clear H
                    go_wp2
                    go_roundg kj25
                    case measure => have := HJ3.out; have := HK2.out; have := HJ25.out; omega
                    case rel => exact ⟨(wrap64 (x45_2 + 1)), (by first | rfl | (simp; done) | (simp [*]; done)), H', ⟨by have := HJ3.out; have := HK2.out; have := HJ25.out; omega⟩, ⟨by exact BK102.out⟩, ⟨by exact BK104.out⟩, ⟨by repeat (first | (with_reducible first | exact HB.out | apply bA | apply bD | apply bE | refine below_set ?_ GE102.out | refine below_set ?_ GE104.out | refine below_set ?_ GE110.out | refine below_set ?_ GE112.out) | exact HB.out)⟩⟩
                   ·rw [if_neg c48] at H; have c48b0 : (t113 == 0) = false := beq_eq_false_iff_ne.mpr c48; have c48b1 : (t113 != 0) = true := bne_iff_ne.mpr c48; obtain rfl := Option.some.inj H
                    go_wp2
                    go_ret
                    exact ⟨by first | rfl | (simp [errW_none, errW_some] <;> rfl) | (simp only [← hji22]; first | rfl | (simp [errW_none, errW_some] <;> rfl)) | (simp [*, errW_none, errW_some] <;> rfl), by repeat (first | (with_reducible first | exact HB.out | apply bA | apply bD | apply bE | refine below_set ?_ GE102.out | refine below_set ?_ GE104.out | refine below_set ?_ GE110.out | refine below_set ?_ GE112.out) | exact HB.out)⟩
               ·rw [if_neg c24] at H; exact absurd H (by simp)
              ·rw [if_neg c23] at H; exact absurd H (by simp)
            ·rw [if_neg c20] at H; exact absurd H (by simp)
           ·rw [if_neg c19] at H; exact absurd H (by simp)
          ·rw [if_neg c18] at H; have c18b0 : decide (x45_2 < (l0.length : Int)) = false := decide_eq_false c18; clear c18; replace H := Option.bind_eq_some_iff.mp H; obtain ⟨t105, A490, H⟩ := H; replace H : ((spec_l03Inside.f k2 t105 (wrap64 (((rd_T27 l0 a1).f0) + ((rd_T27 l0 a2).f0))) (wrap64 (((rd_T27 l0 a1).f1) + ((rd_T27 l0 a2).f1)))).bind fun t108 => (some t108)) = some r := H; have A49 := Ak A490; clear A490; replace H := Option.bind_eq_some_iff.mp H; obtain ⟨t108, A500, H⟩ := H; replace H : (some t108) = some r := H; have A50 := Ak A500; clear A500; obtain rfl := Option.some.inj H
           try go_wp2
           have n0_ := Ak (blk_drew BK102.out); have n1_ := Ak (blk_drew BK104.out); have n2_ := Ak (below_drew1 HB.out); clear BK102 BK104 HB; have BK102 := n0_; have BK104 := n1_; have HB := n2_; clear n0_ n1_ n2_; refine start_ (n := 15) (S := fun w' => w'.cell? ⟨gb102, 0, none⟩ = some (.int .i64 ((rd_T27 l0 a1).f0)) ∧ w'.cell? ⟨gb102, 1, none⟩ = some (.int .i64 ((rd_T27 l0 a1).f1)) ∧ w'.cell? ⟨gb104, 0, none⟩ = some (.int .i64 ((rd_T27 l0 a2).f0)) ∧ w'.cell? ⟨gb104, 1, none⟩ = some (.int .i64 ((rd_T27 l0 a2).f1))) (ds := []) #[F,F,F,F,F,F,F,F,F,F,F,F,F,F,F] (by kernel_rfl) rfl rfl ⟨(blk_cell BK102.out 0).trans rfl, (blk_cell BK102.out 1).trans rfl, (blk_cell BK104.out 0).trans rfl, (blk_cell BK104.out 1).trans rfl⟩ (fun hHeld => ?_); refine with_tabW spec_l05Diagonal.tab17 spec_l05Diagonal.bits17 (fun HT_ HW_ => ?_); generalize wr.drew = w51 at BK102 BK104 HB hHeld ⊢; refine pure_ (i := 0) (N := some 95) (v := ?_) (a' := ?_) #[T,F,F,F,F,F,F,F,F,F,F,F,F,F,F] rfl rfl (any_of HT_.out (by kernel_rfl)) (fun _ _ _ h => h) (Or.inl ⟨by rfl, ?_⟩) ?_ ?_; rotate_left
           ·intro w'; go_simp; with_reducible rfl
           rotate_left
           ·simp only [Act.put, sA, sB, sC, sD, sE]; rfl
           refine pure_ (i := 2) (N := some 97) (v := ?_) (a' := ?_) #[T,F,T,F,F,F,F,F,F,F,F,F,F,F,F] rfl rfl (any_of HT_.out (by kernel_rfl)) (fun _ _ _ h => h) (Or.inl ⟨by rfl, ?_⟩) ?_ ?_; rotate_left
           ·intro w'; go_simp; with_reducible rfl
           rotate_left
           ·simp only [Act.put, sA, sB, sC, sD, sE]; rfl
           refine pure_ (i := 4) (N := some 99) (v := ?_) (a' := ?_) #[T,F,T,F,T,F,F,F,F,F,F,F,F,F,F] rfl rfl (any_of HT_.out (by kernel_rfl)) (fun _ _ _ h => h) (Or.inl ⟨by rfl, ?_⟩) ?_ ?_; rotate_left
           ·intro w'; go_simp; with_reducible rfl
           rotate_left
           ·simp only [Act.put, sA, sB, sC, sD, sE]; rfl
           refine pure_ (i := 7) (N := some 102) (v := ?_) (a' := ?_) #[T,F,T,F,T,F,F,T,F,F,F,F,F,F,F] rfl rfl (any_of HT_.out (by kernel_rfl)) (fun _ _ _ h => h) (Or.inl ⟨by rfl, ?_⟩) ?_ ?_; rotate_left
           ·intro w'; go_simp; with_reducible rfl
           rotate_left
           ·simp only [Act.put, sA, sB, sC, sD, sE]; rfl
           refine pure_ (i := 9) (N := some 104) (v := ?_) (a' := ?_) #[T,F,T,F,T,F,F,T,F,T,F,F,F,F,F] rfl rfl (any_of HT_.out (by kernel_rfl)) (fun _ _ _ h => h) (Or.inl ⟨by rfl, ?_⟩) ?_ ?_; rotate_left
           ·intro w'; go_simp; with_reducible rfl
           rotate_left
           ·simp only [Act.put, sA, sB, sC, sD, sE]; rfl
           refine take_ (i := 3) (N := some 98) (v := ?_) (a' := ?_) #[T,F,T,T,T,F,F,T,F,T,F,F,F,F,F] rfl rfl (take_ofW HT_.out HW_.out (by kernel_rfl)) (fun _ _ _ h => h) (Or.inl ⟨by rfl, ?_⟩) hHeld ?_ ?_; rotate_left
           ·rintro w' ⟨s0, s1, s2, s3⟩; go_simp; with_reducible rfl
           rotate_left
           ·simp only [Act.put, sA, sB, sC, sD, sE]; rfl
           refine take_ (i := 5) (N := some 100) (v := ?_) (a' := ?_) #[T,F,T,T,T,T,F,T,F,T,F,F,F,F,F] rfl rfl (take_ofW HT_.out HW_.out (by kernel_rfl)) (fun _ _ _ h => h) (Or.inl ⟨by rfl, ?_⟩) hHeld ?_ ?_; rotate_left
           ·rintro w' ⟨s0, s1, s2, s3⟩; go_simp; with_reducible rfl
           rotate_left
           ·simp only [Act.put, sA, sB, sC, sD, sE]; rfl
           refine pure_ (i := 6) (N := some 101) (v := ?_) (a' := ?_) #[T,F,T,T,T,T,T,T,F,T,F,F,F,F,F] rfl rfl (any_of HT_.out (by kernel_rfl)) (fun _ _ _ h => h) (Or.inl ⟨by rfl, ?_⟩) ?_ ?_; rotate_left
           ·intro w'; go_simp; with_reducible rfl
           rotate_left
           ·simp only [Act.put, sA, sB, sC, sD, sE]; rfl
           refine take_ (i := 8) (N := some 103) (v := ?_) (a' := ?_) #[T,F,T,T,T,T,T,T,T,T,F,F,F,F,F] rfl rfl (take_ofW HT_.out HW_.out (by kernel_rfl)) (fun _ _ _ h => h) (Or.inl ⟨by rfl, ?_⟩) hHeld ?_ ?_; rotate_left
           ·rintro w' ⟨s0, s1, s2, s3⟩; go_simp; with_reducible rfl
           rotate_left
           ·simp only [Act.put, sA, sB, sC, sD, sE]; rfl
           refine take_ (i := 10) (N := some 105) (v := ?_) (a' := ?_) #[T,F,T,T,T,T,T,T,T,T,T,F,F,F,F] rfl rfl (take_ofW HT_.out HW_.out (by kernel_rfl)) (fun _ _ _ h => h) (Or.inl ⟨by rfl, ?_⟩) hHeld ?_ ?_; rotate_left
           ·rintro w' ⟨s0, s1, s2, s3⟩; go_simp; with_reducible rfl
           rotate_left
           ·simp only [Act.put, sA, sB, sC, sD, sE]; rfl
           refine pure_ (i := 11) (N := some 106) (v := ?_) (a' := ?_) #[T,F,T,T,T,T,T,T,T,T,T,T,F,F,F] rfl rfl (any_of HT_.out (by kernel_rfl)) (fun _ _ _ h => h) (Or.inl ⟨by rfl, ?_⟩) ?_ ?_; rotate_left
           ·intro w'; go_simp; with_reducible rfl
           rotate_left
           ·simp only [Act.put, sA, sB, sC, sD, sE]; rfl
           refine pure_ (i := 12) (N := some 107) (v := ?_) (a' := ?_) #[T,F,T,T,T,T,T,T,T,T,T,T,T,F,F] rfl rfl (any_of HT_.out (by kernel_rfl)) (fun _ _ _ h => h) (Or.inl ⟨by rfl, ?_⟩) ?_ ?_; rotate_left
           ·intro w'; go_simp; with_reducible rfl
           rotate_left
           ·simp only [Act.put, sA, sB, sC, sD, sE]; rfl
           refine one_ (i := 1) (N := some 96) #[T,T,T,T,T,T,T,T,T,T,T,T,T,F,F] rfl rfl (one_of HT_.out (by kernel_rfl)) (by decide) (fun K hK => ?_); refine goes_ Try.func106 (by kernel_rfl) rfl #[.slice (some ad101) l0.length c0] (by rfl) rfl rfl (by (try simp only [List.map_toArray, List.map_cons, List.map_nil]); first | done | rfl | (simp only [List.length_drop, List.length_take]; rfl)) ?_
           with_reducible refine (spec_l05Double.calls k2 _ _ l0 t105 _ ?side1 ?side2 A49.out).mono ?_
           (case side1 => repeat (first | exact (Kd.C_below HR0.out HB.out) | (with_reducible refine Kd.C_alloc ?_ _) | (with_reducible refine Kd.C_drewN ?_ _) | (with_reducible refine Kd.C_drew ?_)))
           (case side2 => exact HC0.out)
           rintro e w52 ⟨v106, rfl, ho0, hb⟩; refine ⟨_, rfl, ?_⟩; have n0_ := Ak (Kd.R_lower (Kd.R_newB (Kd.R_newB ho0 (g := gb102) (o := .cells #[.int .i64 ((rd_T27 l0 a1).f0), .int .i64 ((rd_T27 l0 a1).f1)] 27 (0, 0)) (by exact BK102.out)) (g := gb104) (o := .cells #[.int .i64 ((rd_T27 l0 a2).f0), .int .i64 ((rd_T27 l0 a2).f1)] 27 (0, 0)) (by exact BK104.out)) (below_size (by repeat (first | exact HB.out | apply bA | apply bD | apply bE | refine below_set ?_ GE102.out | refine below_set ?_ GE104.out)))); have n1_ := Ak (blk_below (g := gb102) (o := .cells #[.int .i64 ((rd_T27 l0 a1).f0), .int .i64 ((rd_T27 l0 a1).f1)] 27 (0, 0)) (by exact BK102.out) hb); have n2_ := Ak (blk_below (g := gb104) (o := .cells #[.int .i64 ((rd_T27 l0 a2).f0), .int .i64 ((rd_T27 l0 a2).f1)] 27 (0, 0)) (by exact BK104.out) hb); have n3_ := Ak (below_step (by repeat (first | exact HB.out | apply bA | apply bD | apply bE | refine below_set ?_ GE102.out | refine below_set ?_ GE104.out)) hb); clear BK102 BK104 HB; have HO107 := n0_; have BK102 := n1_; have BK104 := n2_; have HB := n3_; clear n0_ n1_ n2_ n3_; (try clear hb); (try clear hb2); (try clear hk); (try clear hi); (try clear ho0); obtain ⟨Ao53, co53, eo53⟩ := Kd.R_slice HO107.out
           (first | subst eo53 | (injection eo53 with f1_ f2_ f3_; have f4_ := f1_.symm; have f5_ := f3_.symm; clear f1_ f2_ f3_; subst f4_; subst f5_))
           refine hK.out _ _ ⟨(blk_cell BK102.out 0).trans rfl, (blk_cell BK102.out 1).trans rfl, (blk_cell BK104.out 0).trans rfl, (blk_cell BK104.out 1).trans rfl⟩ (fun hHeld => ?_); clear hK K; refine norm_ (a' := ?_) ?_ ?_; rotate_left
           ·show Act.put _ (some 96) _ = _; simp only [Act.put, sA, sB, sC, sD, sE]; rfl
           refine one_ (i := 13) (N := some 108) #[T,T,T,T,T,T,T,T,T,T,T,T,T,T,F] rfl rfl (one_of HT_.out (by kernel_rfl)) (by decide) (fun K hK => ?_); refine goes_ Try.func105 (by kernel_rfl) rfl #[.slice Ao53 t105.length co53, .agg #[.int .i64 (wrap64 (((rd_T27 l0 a1).f0) + ((rd_T27 l0 a2).f0))), .int .i64 (wrap64 (((rd_T27 l0 a1).f1) + ((rd_T27 l0 a2).f1)))]] (by rfl) rfl rfl (by (try simp only [List.map_toArray, List.map_cons, List.map_nil]); first | done | rfl | (simp only [List.length_drop, List.length_take]; rfl)) ?_
           with_reducible refine (spec_l03Inside.calls k2 _ _ t105 (wrap64 (((rd_T27 l0 a1).f0) + ((rd_T27 l0 a2).f0))) (wrap64 (((rd_T27 l0 a1).f1) + ((rd_T27 l0 a2).f1))) t108 _ ?side1 ?side2 A50.out).mono ?_
           (case side1 => repeat (first | exact (Kd.R_reads' HO107.out).2.2 | (with_reducible refine Kd.C_alloc ?_ _) | (with_reducible refine Kd.C_drewN ?_ _) | (with_reducible refine Kd.C_drew ?_)))
           (case side2 => exact (Kd.R_reads' HO107.out).2.1)
           rintro e w54 ⟨rfl, hb⟩; refine ⟨_, rfl, ?_⟩; have n0_ := Ak (Kd.R_below (by (with_reducible repeat (first | apply Kd.R_alloc | apply Kd.R_drewN | apply Kd.R_drew)); exact HO107.out) hb); have n1_ := Ak (blk_below (g := gb102) (o := .cells #[.int .i64 ((rd_T27 l0 a1).f0), .int .i64 ((rd_T27 l0 a1).f1)] 27 (0, 0)) (by exact BK102.out) hb); have n2_ := Ak (blk_below (g := gb104) (o := .cells #[.int .i64 ((rd_T27 l0 a2).f0), .int .i64 ((rd_T27 l0 a2).f1)] 27 (0, 0)) (by exact BK104.out) hb); have n3_ := Ak (below_step (by repeat (first | exact HB.out | apply bA | apply bD | apply bE | refine below_set ?_ GE102.out | refine below_set ?_ GE104.out)) hb); clear HO107 BK102 BK104 HB; have HO107 := n0_; have BK102 := n1_; have BK104 := n2_; have HB := n3_; clear n0_ n1_ n2_ n3_; (try clear hb); (try clear hb2); (try clear hk); (try clear hi); refine hK.out _ _ ⟨(blk_cell BK102.out 0).trans rfl, (blk_cell BK102.out 1).trans rfl, (blk_cell BK104.out 0).trans rfl, (blk_cell BK104.out 1).trans rfl⟩ (fun hHeld => ?_); clear hK K; refine norm_ (a' := ?_) ?_ ?_; rotate_left
           ·show Act.put _ (some 108) _ = _; simp only [Act.put, sA, sB, sC, sD, sE]; rfl
           refine pure_ (i := 14) (N := some 6) (v := ?_) (a' := ?_) #[T,T,T,T,T,T,T,T,T,T,T,T,T,T,T] rfl rfl (any_of HT_.out (by kernel_rfl)) (fun _ _ _ h => h) (Or.inl ⟨by rfl, ?_⟩) ?_ ?_; rotate_left
           ·intro w'; go_simp; with_reducible rfl
           rotate_left
           ·simp only [Act.put, sA, sB, sC, sD, sE]; rfl
           refine done_ (done_of HT_.out (by kernel_rfl)) ?_
           try go_wp2
           go_ret
           exact ⟨by first | rfl | (simp [*, errW_none, errW_some] <;> rfl), by repeat (first | (with_reducible first | exact HB.out | apply bA | apply bD | apply bE | refine below_set ?_ GE102.out | refine below_set ?_ GE104.out) | exact HB.out)⟩
       ·rw [if_neg c12] at H; exact absurd H (by simp)
      ·rw [if_neg c11] at H; exact absurd H (by simp)
     ·rw [if_neg c10] at H; exact absurd H (by simp)
    ·rw [if_neg c9] at H; exact absurd H (by simp)

end Go.Proofs.Ytlccpkggdmngaaa.G
