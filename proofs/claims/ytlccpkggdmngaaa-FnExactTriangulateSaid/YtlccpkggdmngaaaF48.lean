/- A Go function as a plain Lean function, and the proof that Go's call comes to its answer. No conditions but those in the theorem. Written by gen.py (a program of this session over the kit's print). -/
-- SHRUNK by pack.py
import Derived.Test.YtlccpkggdmngaaaG0
import Derived.Test.YtlccpkggdmngaaaF70
import Derived.Test.YtlccpkggdmngaaaF87
import Derived.Test.YtlccpkggdmngaaaF88
namespace Go.Proofs.Ytlccpkggdmngaaa.G
open Go.RowKit Go.Proofs.YtlccpkggdmngaaaW.PrintWords Go.Proofs.YtlccpkggdmngaaaW.PrintLast Go.Proofs.YtlccpkggdmngaaaW.PrintMore Go.Proofs.YtlccpkggdmngaaaW.PrintBits
attribute [local go_sem] max2_int min2_int max_two min_two max_three min_three max_four min_four   -- for this text's walks alone
set_option linter.unusedVariables false
set_option linter.unusedSimpArgs false

/-! ### spec_Triangulate: function 48 -/
mutual
def spec_Triangulate.l0 : Nat → List (S27) → List Int → Int → Int → Option ((List (List Int)) × Bool)
 | 0, _, _, _, _ => none
 | k + 1, x0, x4, x18, x19 => if x19 < x18 then (if x4.length < 17592186044416 then (spec_Triangulate.l0 k x0 (x4 ++ [x19]) x18 (wrap64 (x19 + 1))) else (none)) else (spec_Triangulate.l1 k x0 x4 (([] : List (List Int))))
def spec_Triangulate.l1 : Nat → List (S27) → List Int → List (List Int) → Option ((List (List Int)) × Bool)
 | 0, _, _, _ => none
 | k + 1, x0, x4, x6 => if (x4.length : Int) > 3 then (spec_Triangulate.l2 k x0 x4 x6 (([] : List (S27))) x4 (x4.length : Int) 0) else (if 0 < (x4.length : Int) then (if 1 < (x4.length : Int) then (if 2 < (x4.length : Int) then ((spec_l05Three.f (rd x4 0) (rd x4 1) (rd x4 2)).bind fun t114 => (if x6.length < 5864062014805 then (some ((x6 ++ [t114]), true)) else (none))) else (none)) else (none)) else (none))
def spec_Triangulate.l2 : Nat → List (S27) → List Int → List (List Int) → List (S27) → List Int → Int → Int → Option ((List (List Int)) × Bool)
 | 0, _, _, _, _, _, _, _ => none
 | k + 1, x0, x4, x6, x7, x32, x33, x34 => if x34 < x33 then (if 0 ≤ x34 then (if x34 < (x32.length : Int) then (if 0 ≤ (rd x32 x34) then (if (rd x32 x34) < (x0.length : Int) then (if x7.length < 8796093022208 then (spec_Triangulate.l2 k x0 x4 x6 (x7 ++ [(⟨(rd_T27 x0 (rd x32 x34)).f0, (rd_T27 x0 (rd x32 x34)).f1⟩ : S27)]) x32 x33 (wrap64 (x34 + 1))) else (none)) else (none)) else (none)) else (none)) else (none)) else (spec_Triangulate.l3 k x0 x4 x6 x7 (-1) (x7.length : Int) 0)
def spec_Triangulate.l3 : Nat → List (S27) → List Int → List (List Int) → List (S27) → Int → Int → Int → Option ((List (List Int)) × Bool)
 | 0, _, _, _, _, _, _, _ => none
 | k + 1, x0, x4, x6, x7, x10, x47, x48 => if x48 < x47 then (if x10 < 0 then ((spec_l05Ear.f k x7 x48).bind fun t128 => (if t128 = true then (spec_Triangulate.l3 k x0 x4 x6 x7 x48 x47 (wrap64 (x48 + 1))) else (spec_Triangulate.l3 k x0 x4 x6 x7 x10 x47 (wrap64 (x48 + 1))))) else (spec_Triangulate.l3 k x0 x4 x6 x7 x10 x47 (wrap64 (x48 + 1)))) else (if x10 < 0 then (some (([] : List (List Int)), false)) else (if (x4.length : Int) = 0 then (none) else (if 0 ≤ (Int.tmod (wrap64 ((wrap64 (x10 + (x4.length : Int))) - 1)) (x4.length : Int)) then (if (Int.tmod (wrap64 ((wrap64 (x10 + (x4.length : Int))) - 1)) (x4.length : Int)) < (x4.length : Int) then (if 0 ≤ x10 then (if x10 < (x4.length : Int) then (if 0 ≤ (Int.tmod (wrap64 (x10 + 1)) (x4.length : Int)) then (if (Int.tmod (wrap64 (x10 + 1)) (x4.length : Int)) < (x4.length : Int) then ((spec_l05Three.f (rd x4 (Int.tmod (wrap64 ((wrap64 (x10 + (x4.length : Int))) - 1)) (x4.length : Int))) (rd x4 x10) (rd x4 (Int.tmod (wrap64 (x10 + 1)) (x4.length : Int)))).bind fun t132 => (if x6.length < 5864062014805 then ((some (([] : List Int) : List Int)).bind fun y138 => (if x10 ≤ (x4.length : Int) then ((some (x4.take (x10 : Int).toNat : List Int)).bind fun y141 => (if y138.length + y141.length < 17592186044416 then ((some (y138 ++ y141 : List Int)).bind fun y145 => (if 0 ≤ (wrap64 (x10 + 1)) then (if (wrap64 (x10 + 1)) ≤ (x4.length : Int) then ((some (x4.drop ((wrap64 (x10 + 1)) : Int).toNat : List Int)).bind fun y148 => (if y145.length + y148.length < 17592186044416 then (spec_Triangulate.l1 k x0 (y145 ++ y148) (x6 ++ [t132])) else (none))) else (none)) else (none))) else (none))) else (none))) else (none))) else (none)) else (none)) else (none)) else (none)) else (none)) else (none))))
end
def spec_Triangulate.f (k : Nat) (l0 : List (S27)) : Option ((List (List Int)) × Bool) := (spec_PolygonOk.f k l0).bind fun t101 => (if t101 = true then (spec_Triangulate.l0 k l0 (([] : List Int)) (l0.length : Int) 0) else (some (([] : List (List Int)), false)))
def spec_Triangulate.T27 : Bool × List (List Nat × List Nat) := (true, [([], []), ([], []), ([], []), ([], []), ([2, 3], [2, 3]), ([4], [4]), ([], []), ([5, 6], [5, 6]), ([1, 7], [1, 7]), ([8], [8]), ([], []), ([], []), ([10, 11], [10, 11]), ([12], [12]), ([], []), ([], []), ([15], [15]), ([], []), ([16, 17], [16, 17]), ([14, 18], [14, 18]), ([19], [19]), ([9, 13, 20], [9, 13, 20]), ([21], [21]), ([0, 22, 21], [0, 22]), ([23, 23, 0, 1, 2, 3, 4, 5, 6, 7, 8, 9, 10, 11, 12, 13, 14, 15, 16, 17, 18, 19, 20, 21, 22, 23], [0, 23])])
def spec_Triangulate.B27 : List Nat := [0, 0, 0, 0, 12, 28, 0, 124, 254, 510, 0, 0, 3072, 7168, 0, 0, 32768, 0, 229376, 507904, 1032192, 2097150, 4194302, 8388607, 16777215]
theorem spec_Triangulate.tab27 : rtab .any (opsOf Try.f48 27) = spec_Triangulate.T27 := by kernel_rfl
theorem spec_Triangulate.bits27 : waitsOk spec_Triangulate.T27.2 spec_Triangulate.B27 = true := by kernel_rfl
def spec_Triangulate.T28 : Bool × List (List Nat × List Nat) := (true, [([], []), ([], []), ([], []), ([1, 2], [1, 2]), ([0, 3], [0, 3]), ([], []), ([], []), ([6], [6]), ([5, 7], [5, 7]), ([4, 8, 4], [4, 8]), ([9, 9, 0, 1, 2, 3, 4, 5, 6, 7, 8, 9], [1, 5, 9])])
def spec_Triangulate.B28 : List Nat := [0, 0, 0, 6, 15, 0, 0, 64, 224, 511, 1023]
theorem spec_Triangulate.tab28 : rtab .any (opsOf Try.f48 28) = spec_Triangulate.T28 := by kernel_rfl
theorem spec_Triangulate.bits28 : waitsOk spec_Triangulate.T28.2 spec_Triangulate.B28 = true := by kernel_rfl
def spec_Triangulate.T29 : Bool × List (List Nat × List Nat) := (true, [([], []), ([], []), ([1], [1]), ([2], [2]), ([], []), ([4], [4]), ([5], [5]), ([], []), ([7], [7]), ([8], [8]), ([3, 6, 9], [3, 6, 9]), ([10], [10]), ([0, 11, 10], [0, 11]), ([12, 12, 0, 1, 2, 3, 4, 5, 6, 7, 8, 9, 10, 11, 12], [12]), ([13, 0, 1, 2, 3, 4, 5, 6, 7, 8, 9, 10, 11, 12, 13], [])])
def spec_Triangulate.B29 : List Nat := [0, 0, 2, 6, 0, 16, 48, 0, 128, 384, 1022, 2046, 4095, 8191, 16383]
theorem spec_Triangulate.tab29 : rtab .any (opsOf Try.f48 29) = spec_Triangulate.T29 := by kernel_rfl
theorem spec_Triangulate.bits29 : waitsOk spec_Triangulate.T29.2 spec_Triangulate.B29 = true := by kernel_rfl
set_option maxHeartbeats 8000000 in
set_option maxRecDepth 100000 in
theorem spec_Triangulate.calls (k : Nat) (A0 : Option Addr) (c0 : Nat) (l0 : List (S27)) (r1 : List (List Int)) (r2 : Bool) (w : World) (hr0 : Kd.C k27 w A0 l0.length l0) (hc0 : l0.length ≤ c0) (h : spec_Triangulate.f k l0 = some (r1, r2)) :
  Calls Try.prog 48 #[.slice A0 l0.length c0] w fun e w' => ∃ v0_ : Value, e = .returned (.tuple #[v0_, .bool r2]) ∧ Kd.S (Kd.slice 3 (Kd.int .i64)) 78 w' w.heap.size (fun _ => True) v0_ r1 ∧ Below w.heap.size w w' := by
 have hu27 := Try.underlying27; have HR0 := Ak hr0; have HC0 := Ak hc0; clear hr0 hc0; have HB := Ak (Below.refl w.heap.size w); have H : ((spec_PolygonOk.f k l0).bind fun t101 => (if t101 = true then (spec_Triangulate.l0 k l0 (([] : List Int)) (l0.length : Int) 0) else (some (([] : List (List Int)), false)))) = some (r1, r2) := h; clear h; replace H := Option.bind_eq_some_iff.mp H; obtain ⟨t101, A20, H⟩ := H; replace H : (if t101 = true then (spec_Triangulate.l0 k l0 (([] : List Int)) (l0.length : Int) 0) else (some (([] : List (List Int)), false))) = some (r1, r2) := H; have A2 := Ak A20; clear A20
 by_cases c3 : t101 = true
 ·subst c3; have H1 : (spec_Triangulate.l0 k l0 (([] : List Int)) (l0.length : Int) 0) = some (r1, r2) := by rw [if_pos rfl] at H; exact H
  clear H; have H := H1; clear H1; obtain ⟨y102, hy102⟩ : ∃ y_ : List Int, y_ = (([] : List Int)) := ⟨_, rfl⟩; replace H : (spec_Triangulate.l0 k l0 y102 (l0.length : Int) 0) = some (r1, r2) := by first | (rw [hy102]; exact H) | exact H
  have Ny102 := Ak hy102; clear hy102; have H' := Ak H; clear H
  go_enter Try.func48, Try.ntmps48
  go_wp2_with (first | ((with_reducible refine gate_callee (f := 70) rfl ?_); refine goesL_ (some 14) rfl rfl Try.func70 (by kernel_rfl) rfl #[.slice A0 l0.length c0] rfl (by (try simp only [List.map_toArray, List.map_cons, List.map_nil]); first | done | rfl | (simp only [List.length_drop, List.length_take]; rfl)) ?_; (with_reducible refine (spec_PolygonOk.calls k _ _ l0 true _ ?side1 ?side2 A2.out).mono ?_); (case side1 => repeat (first | exact HR0.out | (with_reducible refine Kd.C_alloc ?_ _) | (with_reducible refine Kd.C_drewN ?_ _) | (with_reducible refine Kd.C_drew ?_))); (case side2 => exact HC0.out); rintro e w4 ⟨rfl, hb⟩; refine ⟨_, rfl, ?_⟩; have n0_ := Ak (below_step (by repeat (first | exact HB.out | apply bA | apply bD | apply bE)) hb); clear HB; have HB := n0_; clear n0_; (try clear hb); (try clear hb2); (try clear hk); (try clear hi)) | ((with_reducible refine gate_dst (N := 16) rfl ?_); refine Kd.R_lit (Kd.int .i64) _ 3 ?hg (N := 16) ?hd (xs := ([] : List Int)) (inner := []) (ok := fun _ => True) (okp := fun _ => True) ?hr ?hp (fun _ hk => hk) trivial (Below.refl _ _) (Nat.le_refl _) (by simp) ?_; (case hd | hg => rfl); (case hr => first | (go_simp; done) | (go_simp; rfl)); (case hp => exact (Reps.none _ _)); intro v103 w5 ho6 hb hg_ hnew_; clear hg_ hnew_; (first | rw [← Ny102.out] at ho6 | (simp only [Int.reduceToNat] at ho6; rw [← Ny102.out] at ho6)); have n0_ := Ak (Kd.R_lower ho6 (below_size (by repeat (first | exact HB.out | apply bA | apply bD | apply bE)))); have n1_ := Ak (below_step (by repeat (first | exact HB.out | apply bA | apply bD | apply bE)) hb); clear HB; have HO104 := n0_; have HB := n1_; clear n0_ n1_; clear hb ho6))
  go_loopg [4, 19] k (fun kq v4 v19 w' => ∃ (x4_1 : List Int) (x19_1 : Int), v19 = .int .i64 x19_1 ∧ Aside0 (spec_Triangulate.l0 kq l0 x4_1 (l0.length : Int) x19_1 = some (r1, r2)) ∧ Aside0 (kq ≤ k) ∧ Aside0 (Kd.R (Kd.int .i64) 3 w' w.heap.size (fun _ => True) v4 x4_1) ∧ Aside0 (Below w.heap.size w w'))
  case atStart => exact ⟨(y102), (0), (by first | rfl | (simp; done) | (simp [*]; done)), H', ⟨Nat.le_refl _⟩, ⟨by (with_reducible repeat (first | apply Kd.R_alloc | apply Kd.R_drewN | apply Kd.R_drew)); exact HO104.out⟩, ⟨by repeat (first | (with_reducible first | exact HB.out | apply bA | apply bD | apply bE) | exact HB.out)⟩⟩
  case round =>
   clear H'
   try clear p2
   try clear c3
   try clear c4
   obtain ⟨x4_1, x19_1, rfl, HA, HK1, HO_4, HB⟩ := hrel
   cases gk with
   | zero => exact absurd HA.out (by simp [spec_Triangulate.l0])
   | succ k1 =>
    have H := HA.out; clear HA; simp only [spec_Triangulate.l0] at H
    by_cases c7 : x19_1 < (l0.length : Int)
    ·rw [if_pos c7] at H; have c7b0 : decide (x19_1 < (l0.length : Int)) = true := decide_eq_true c7; clear c7
     by_cases c8 : x4_1.length < 17592186044416
     ·rw [if_pos c8] at H; have LMc8 := Ak c8; clear c8; obtain ⟨y105, hy105⟩ : ∃ y_ : List Int, y_ = (x4_1 ++ [x19_1]) := ⟨_, rfl⟩; replace H : (spec_Triangulate.l0 k1 l0 y105 (l0.length : Int) (wrap64 (x19_1 + 1))) = some (r1, r2) := by first | (rw [hy105]; exact H) | exact H
      have Ny105 := Ak hy105; clear hy105; have H' := Ak H; clear H
      go_wp2_with (first | ((with_reducible refine gate_builtin (b := .append) (xs := #[.tmp 22, .tmp 24]) rfl ?_); at_builtin; refine Kd.R_append (Kd.int .i64) (w0 := w) w.heap.size rfl (.tmp 22) (.tmp 24) 78 3 (.int .i64 0) 8 rfl Try.underlying78 info3 rfl (by decide) (by omega) u4 x4_1 x19_1 [.int .i64 x19_1] (fun _ => True) (fun _ => False) rfl rfl ?aP (fun _ hk => hk.elim) ?aF ?aO ?aB ?aS ?aL ?_; (case aP => exact rfl); (case aB => exact (by repeat (first | exact HB.out | apply bA | apply bD | apply bE))); (case aF => exact (fun _ _ => trivial)); (case aO => exact (by (with_reducible repeat (first | apply Kd.R_alloc | apply Kd.R_drewN | apply Kd.R_drew)); exact HO_4.out)); (case aS => exact (below_size (by repeat (first | exact HB.out | apply bA | apply bD | apply bE)))); (case aL => have := LMc8.out; omega); intro v106 w9 ho hb hg hat; rw [← Ny105.out] at ho; have n0_ := Ak (hb); have n1_ := Ak (ho); clear HB; clear HO_4; have HB := n0_; have HO107 := n1_; clear n0_ n1_; clear ho hb hg hat))
      go_roundg k1
      case measure => have := HK1.out; omega
      case rel => exact ⟨(y105), (wrap64 (x19_1 + 1)), (by first | rfl | (simp; done) | (simp [*]; done)), H', ⟨by have := HK1.out; omega⟩, ⟨by (with_reducible repeat (first | apply Kd.R_alloc | apply Kd.R_drewN | apply Kd.R_drew)); exact HO107.out⟩, ⟨by repeat (first | (with_reducible first | exact HB.out | apply bA | apply bD | apply bE) | exact HB.out)⟩⟩
     ·rw [if_neg c8] at H; exact absurd H (by simp)
    ·rw [if_neg c7] at H; have c7b0 : decide (x19_1 < (l0.length : Int)) = false := decide_eq_false c7; clear c7; obtain ⟨y108, hy108⟩ : ∃ y_ : List (List Int), y_ = (([] : List (List Int))) := ⟨_, rfl⟩; replace H : (spec_Triangulate.l1 k1 l0 x4_1 y108) = some (r1, r2) := by first | (rw [hy108]; exact H) | exact H
     have Ny108 := Ak hy108; clear hy108; have H' := Ak H; clear H
     go_wp2_with (first | ((with_reducible refine gate_dst (N := 27) rfl ?_); refine Kd.S_lit (Kd.slice 3 (Kd.int .i64)) _ 78 ?hg (N := 27) ?hd (xs := ([] : List (List Int))) (inner := []) (ok := fun _ => True) (okp := fun _ => True) ?hr ?hp (fun _ hk => hk) trivial (Below.refl _ _) (Nat.le_refl _) (by simp) ?_; (case hd | hg => rfl); (case hr => first | (go_simp; done) | (go_simp; rfl)); (case hp => exact (Reps.none _ _)); intro v109 w10 ho11 hb hg_ hnew_; clear hg_ hnew_; (first | rw [← Ny108.out] at ho11 | (simp only [Int.reduceToNat] at ho11; rw [← Ny108.out] at ho11)); have n0_ := Ak (Kd.R_below (by (with_reducible repeat (first | apply Kd.R_alloc | apply Kd.R_drewN | apply Kd.R_drew)); exact HO_4.out) hb); have n1_ := Ak (Kd.S_lower (Kd.S_new' ho11 (Kd.R_lt (by (with_reducible repeat (first | apply Kd.R_alloc | apply Kd.R_drewN | apply Kd.R_drew)); exact HO_4.out))) (below_size (by repeat (first | exact HB.out | apply bA | apply bD | apply bE)))); have n2_ := Ak (below_step (by repeat (first | exact HB.out | apply bA | apply bD | apply bE)) hb); clear HO_4; clear HB; have HO_4 := n0_; have HO110 := n1_; have HB := n2_; clear n0_ n1_ n2_; clear hb ho11))
     go_loopg [4, 6] k1 (fun kq v4 v6 w' => ∃ (x4_2 : List Int) (x6_2 : List (List Int)), Aside0 (spec_Triangulate.l1 kq l0 x4_2 x6_2 = some (r1, r2)) ∧ Aside0 (kq ≤ k1) ∧ Aside0 (Kd.R (Kd.int .i64) 3 w' w.heap.size (fun _ => True) v4 x4_2) ∧ Aside0 (Kd.S (Kd.slice 3 (Kd.int .i64)) 78 w' w.heap.size (fun k_ => some k_ ≠ (v4 : Value).ownBlock) v6 x6_2) ∧ Aside0 (Below w.heap.size w w'))
     case atStart => exact ⟨(x4_1), (y108), H', ⟨Nat.le_refl _⟩, ⟨by (with_reducible repeat (first | apply Kd.R_alloc | apply Kd.R_drewN | apply Kd.R_drew)); exact HO_4.out⟩, ⟨by (with_reducible repeat (first | apply Kd.S_alloc | apply Kd.S_drewN | apply Kd.S_drew)); exact Kd.S_mono HO110.out (fun _ hk => hk.2)⟩, ⟨by repeat (first | (with_reducible first | exact HB.out | apply bA | apply bD | apply bE) | exact HB.out)⟩⟩
     case round =>
      clear H'
      try clear p2
      try clear c3
      try clear c4
      try clear p6
      try clear c7
      try clear c7b0
      try clear c8
      try clear p2
      obtain ⟨x4_2, x6_2, HA, HK2, HO_4, HO_6, HB⟩ := hrel
      cases gk with
      | zero => exact absurd HA.out (by simp [spec_Triangulate.l1])
      | succ k2 =>
       have H := HA.out; clear HA; simp only [spec_Triangulate.l1] at H
       by_cases c12 : (x4_2.length : Int) > 3
       ·rw [if_pos c12] at H; have c12b0 : decide (3 < (x4_2.length : Int)) = true := decide_eq_true c12; have c12b1 : decide (3 < x4_2.length) = true := decide_eq_true (by omega); clear c12; obtain ⟨y120, hy120⟩ : ∃ y_ : List (S27), y_ = (([] : List (S27))) := ⟨_, rfl⟩; replace H : (spec_Triangulate.l2 k2 l0 x4_2 x6_2 y120 x4_2 (x4_2.length : Int) 0) = some (r1, r2) := by first | (rw [hy120]; exact H) | exact H
        have Ny120 := Ak hy120; clear hy120; have H' := Ak H; clear H; obtain ⟨Ao13, co13, eo13⟩ := Kd.R_slice HO_4.out; subst eo13
        go_wp2_with (first | ((with_reducible refine gate_dst (N := 31) rfl ?_); refine Kd.R_lit k27 _ 27 ?hg (N := 31) ?hd (xs := ([] : List (S27))) (inner := []) (ok := fun _ => True) (okp := fun _ => True) ?hr ?hp (fun _ hk => hk) trivial (Below.refl _ _) (Nat.le_refl _) (by simp) ?_; (case hd | hg => rfl); (case hr => first | (go_simp; done) | (go_simp; rfl)); (case hp => exact (Reps.none _ _)); intro v121 w14 ho15 hb hg_ hnew_; clear hg_ hnew_; (first | rw [← Ny120.out] at ho15 | (simp only [Int.reduceToNat] at ho15; rw [← Ny120.out] at ho15)); have n0_ := Ak (Kd.R_below (by (with_reducible repeat (first | apply Kd.R_alloc | apply Kd.R_drewN | apply Kd.R_drew)); exact HO_4.out) hb); have n1_ := Ak (Kd.S_below (by (with_reducible repeat (first | apply Kd.S_alloc | apply Kd.S_drewN | apply Kd.S_drew)); exact HO_6.out) hb); have n2_ := Ak (Kd.R_lower ho15 (below_size (by repeat (first | exact HB.out | apply bA | apply bD | apply bE)))); have n3_ := Ak (below_step (by repeat (first | exact HB.out | apply bA | apply bD | apply bE)) hb); clear HO_4; clear HO_6; clear HB; have HO_4 := n0_; have HO_6 := n1_; have HO122 := n2_; have HB := n3_; clear n0_ n1_ n2_ n3_; clear hb ho15))
        go_loopg [7, 34] k2 (fun kq v7 v34 w' => ∃ (x7_3 : List (S27)) (x34_3 : Int), v34 = .int .i64 x34_3 ∧ Aside0 (spec_Triangulate.l2 kq l0 x4_2 x6_2 x7_3 x4_2 (x4_2.length : Int) x34_3 = some (r1, r2)) ∧ Aside0 (kq ≤ k2) ∧ Aside0 (Kd.R (Kd.int .i64) 3 w' w.heap.size (fun _ => True) (.slice Ao13 x4_2.length co13) x4_2) ∧ Aside0 (Kd.S (Kd.slice 3 (Kd.int .i64)) 78 w' w.heap.size (fun k_ => some k_ ≠ ((.slice Ao13 x4_2.length co13) : Value).ownBlock ∧ some k_ ≠ ((.slice Ao13 x4_2.length co13) : Value).ownBlock) u6 x6_2) ∧ Aside0 (Kd.R k27 27 w' w.heap.size (fun _ => True) v7 x7_3) ∧ Aside0 (Kd.R (Kd.int .i64) 3 w' w.heap.size (fun _ => True) (.slice Ao13 x4_2.length co13) x4_2) ∧ Aside0 (Below w.heap.size w w'))
        case atStart => exact ⟨(y120), (0), (by first | rfl | (simp; done) | (simp [*]; done)), H', ⟨Nat.le_refl _⟩, ⟨by (with_reducible repeat (first | apply Kd.R_alloc | apply Kd.R_drewN | apply Kd.R_drew)); exact HO_4.out⟩, ⟨by (with_reducible repeat (first | apply Kd.S_alloc | apply Kd.S_drewN | apply Kd.S_drew)); exact Kd.S_mono HO_6.out (fun _ hk => ⟨hk, hk⟩)⟩, ⟨by (with_reducible repeat (first | apply Kd.R_alloc | apply Kd.R_drewN | apply Kd.R_drew)); exact HO122.out⟩, ⟨by (with_reducible repeat (first | apply Kd.R_alloc | apply Kd.R_drewN | apply Kd.R_drew)); exact HO_4.out⟩, ⟨by repeat (first | (with_reducible first | exact HB.out | apply bA | apply bD | apply bE) | exact HB.out)⟩⟩
        case round =>
         clear H'
         try clear c1
         try clear p2
         try clear c3
         try clear c4
         try clear p6
         try clear c7
         try clear c7b0
         try clear c8
         try clear c12
         try clear c12b0
         try clear c12b1
         try clear p2
         try clear p6
         obtain ⟨x7_3, x34_3, rfl, HA, HK3, HO_4, HO_6, HO_7, HO_32, HB⟩ := hrel
         cases gk with
         | zero => exact absurd HA.out (by simp [spec_Triangulate.l2])
         | succ k3 =>
          have H := HA.out; clear HA; simp only [spec_Triangulate.l2] at H
          by_cases c16 : x34_3 < (x4_2.length : Int)
          ·rw [if_pos c16] at H; have c16b0 : decide (x34_3 < (x4_2.length : Int)) = true := decide_eq_true c16; clear c16
           by_cases c17 : 0 ≤ x34_3
           ·rw [if_pos c17] at H; have c17b0 : decide (0 ≤ x34_3) = true := decide_eq_true c17; clear c17
            by_cases c18 : x34_3 < (x4_2.length : Int)
            ·rw [if_pos c18] at H; have c18b0 : decide (x34_3 < (x4_2.length : Int)) = true := decide_eq_true c18; clear c18
             by_cases c19 : 0 ≤ (rd x4_2 x34_3)
             ·rw [if_pos c19] at H; have c19b0 : decide (0 ≤ (rd x4_2 x34_3)) = true := decide_eq_true c19; clear c19
              by_cases c20 : (rd x4_2 x34_3) < (l0.length : Int)
              ·rw [if_pos c20] at H; have c20b0 : decide ((rd x4_2 x34_3) < (l0.length : Int)) = true := decide_eq_true c20; clear c20
               by_cases c21 : x7_3.length < 8796093022208
               ·rw [if_pos c21] at H; have LMc21 := Ak c21; clear c21; obtain ⟨y125, hy125⟩ : ∃ y_ : List (S27), y_ = (x7_3 ++ [(⟨(rd_T27 l0 (rd x4_2 x34_3)).f0, (rd_T27 l0 (rd x4_2 x34_3)).f1⟩ : S27)]) := ⟨_, rfl⟩; replace H : (spec_Triangulate.l2 k3 l0 x4_2 x6_2 y125 x4_2 (x4_2.length : Int) (wrap64 (x34_3 + 1))) = some (r1, r2) := by first | (rw [hy125]; exact H) | exact H
                have Ny125 := Ak hy125; clear hy125; have H' := Ak H; clear H; have p123 : 0 ≤ (x34_3 : Int) := of_decide_eq_true (by first | (with_reducible assumption) | assumption); have q123 : x34_3 < (x4_2.length : Int) := of_decide_eq_true (by first | (with_reducible assumption) | assumption); obtain ⟨ad123, e123, hx123_0⟩ := Kd.at_int (Kd.R_reads' HO_32.out).2.2 x34_3 p123 q123; cases e123; replace p123 := eq_true p123; replace q123 := eq_true q123; have p124 : 0 ≤ ((rd x4_2 x34_3) : Int) := of_decide_eq_true (by first | (with_reducible assumption) | assumption); have q124 : (rd x4_2 x34_3) < (l0.length : Int) := of_decide_eq_true (by first | (with_reducible assumption) | assumption); obtain ⟨ad124, e124, hx124_0, hx124_1⟩ := at_T27 HR0.out (rd x4_2 x34_3) p124 q124; cases e124; replace hx124_0 := cB HB.out hx124_0; replace hx124_1 := cB HB.out hx124_1; replace p124 := eq_true p124; replace q124 := eq_true q124
                go_wp2_with (first | ((with_reducible refine gate_builtin (b := .append) (xs := #[.tmp 38, .tmp 43]) rfl ?_); at_builtin; refine Kd.R_append k27 (w0 := w) w.heap.size rfl (.tmp 38) (.tmp 43) 23 27 (.agg #[(.int .i64 0), (.int .i64 0)]) 16 rfl Try.underlying23 info27 rfl (by decide) (by omega) u7 x7_3 (⟨(rd_T27 l0 (rd x4_2 x34_3)).f0, (rd_T27 l0 (rd x4_2 x34_3)).f1⟩ : S27) [.int .i64 ((rd_T27 l0 (rd x4_2 x34_3)).f0), .int .i64 ((rd_T27 l0 (rd x4_2 x34_3)).f1)] (fun _ => True) (fun _ => False) rfl rfl ?aP (fun _ hk => hk.elim) ?aF ?aO ?aB ?aS ?aL ?_; (case aP => exact k27_mkM _ _ _ (⟨(rd_T27 l0 (rd x4_2 x34_3)).f0, (rd_T27 l0 (rd x4_2 x34_3)).f1⟩ : S27)); (case aB => exact (by repeat (first | exact HB.out | apply bA | apply bD | apply bE))); (case aF => exact (fun _ _ => trivial)); (case aO => exact (by (with_reducible repeat (first | apply Kd.R_alloc | apply Kd.R_drewN | apply Kd.R_drew)); exact HO_7.out)); (case aS => exact (below_size (by repeat (first | exact HB.out | apply bA | apply bD | apply bE)))); (case aL => have := LMc21.out; omega); intro v126 w22 ho hb hg hat; rw [← Ny125.out] at ho; have n0_ := Ak (Kd.R_over' (by (with_reducible repeat (first | apply Kd.R_alloc | apply Kd.R_drewN | apply Kd.R_drew)); exact HO_4.out) (Kd.R_typed (by (with_reducible repeat (first | apply Kd.R_alloc | apply Kd.R_drewN | apply Kd.R_drew)); exact HO_7.out)) (by decide) hg); have n1_ := Ak (Kd.S_over' (by (with_reducible repeat (first | apply Kd.S_alloc | apply Kd.S_drewN | apply Kd.S_drew)); exact HO_6.out) (Kd.R_typed (by (with_reducible repeat (first | apply Kd.R_alloc | apply Kd.R_drewN | apply Kd.R_drew)); exact HO_7.out)) (by decide) hg); have n2_ := Ak (Kd.R_over' (by (with_reducible repeat (first | apply Kd.R_alloc | apply Kd.R_drewN | apply Kd.R_drew)); exact HO_32.out) (Kd.R_typed (by (with_reducible repeat (first | apply Kd.R_alloc | apply Kd.R_drewN | apply Kd.R_drew)); exact HO_7.out)) (by decide) hg); have n3_ := Ak (hb); have n4_ := Ak (ho); clear HO_4; clear HO_6; clear HO_32; clear HB; clear HO_7; have HO_4 := n0_; have HO_6 := n1_; have HO_32 := n2_; have HB := n3_; have HO127 := n4_; clear n0_ n1_ n2_ n3_ n4_; clear ho hb hg hat))
                go_roundg k3
                case measure => have := HK1.out; have := HK2.out; have := HK3.out; omega
                case rel => exact ⟨(y125), (wrap64 (x34_3 + 1)), (by first | rfl | (simp; done) | (simp [*]; done)), H', ⟨by have := HK1.out; have := HK2.out; have := HK3.out; omega⟩, ⟨by (with_reducible repeat (first | apply Kd.R_alloc | apply Kd.R_drewN | apply Kd.R_drew)); exact HO_4.out⟩, ⟨by (with_reducible repeat (first | apply Kd.S_alloc | apply Kd.S_drewN | apply Kd.S_drew)); exact HO_6.out⟩, ⟨by (with_reducible repeat (first | apply Kd.R_alloc | apply Kd.R_drewN | apply Kd.R_drew)); exact HO127.out⟩, ⟨by (with_reducible repeat (first | apply Kd.R_alloc | apply Kd.R_drewN | apply Kd.R_drew)); exact HO_32.out⟩, ⟨by repeat (first | (with_reducible first | exact HB.out | apply bA | apply bD | apply bE) | exact HB.out)⟩⟩
               ·rw [if_neg c21] at H; exact absurd H (by simp)
              ·rw [if_neg c20] at H; exact absurd H (by simp)
             ·rw [if_neg c19] at H; exact absurd H (by simp)
            ·rw [if_neg c18] at H; exact absurd H (by simp)
           ·rw [if_neg c17] at H; exact absurd H (by simp)
          ·rw [if_neg c16] at H; have c16b0 : decide (x34_3 < (x4_2.length : Int)) = false := decide_eq_false c16; clear c16; have H' := Ak H; clear H; obtain ⟨Ao23, co23, eo23⟩ := Kd.R_slice HO_7.out; subst eo23
           go_wp2
           go_loopg [10, 48] k3 (fun kq v10 v48 w' => ∃ (x10_4 : Int) (x48_4 : Int), v10 = .int .i64 x10_4 ∧ v48 = .int .i64 x48_4 ∧ Aside0 (spec_Triangulate.l3 kq l0 x4_2 x6_2 x7_3 x10_4 (x7_3.length : Int) x48_4 = some (r1, r2)) ∧ Aside0 (kq ≤ k3) ∧ Aside0 (Kd.R (Kd.int .i64) 3 w' w.heap.size (fun _ => True) (.slice Ao13 x4_2.length co13) x4_2) ∧ Aside0 (Kd.S (Kd.slice 3 (Kd.int .i64)) 78 w' w.heap.size (fun k_ => some k_ ≠ ((.slice Ao13 x4_2.length co13) : Value).ownBlock) u6 x6_2) ∧ Aside0 (Kd.R k27 27 w' w.heap.size (fun _ => True) (.slice Ao23 x7_3.length co23) x7_3) ∧ Aside0 (Below w.heap.size w w'))
           case atStart => exact ⟨((-1)), (0), (by first | rfl | (simp; done) | (simp [*]; done)), (by first | rfl | (simp; done) | (simp [*]; done)), H', ⟨Nat.le_refl _⟩, ⟨by (with_reducible repeat (first | apply Kd.R_alloc | apply Kd.R_drewN | apply Kd.R_drew)); exact HO_4.out⟩, ⟨by (with_reducible repeat (first | apply Kd.S_alloc | apply Kd.S_drewN | apply Kd.S_drew)); exact Kd.S_mono HO_6.out (fun _ hk => hk.1)⟩, ⟨by (with_reducible repeat (first | apply Kd.R_alloc | apply Kd.R_drewN | apply Kd.R_drew)); exact HO_7.out⟩, ⟨by repeat (first | (with_reducible first | exact HB.out | apply bA | apply bD | apply bE) | exact HB.out)⟩⟩
           case round =>
            clear H'
            try clear c1
            try clear p1
            try clear q1
            try clear hx1
            try clear c2
            try clear p2
            try clear c3
            try clear c4
            try clear p6
            try clear c7
            try clear c7b0
            try clear c8
            try clear c12
            try clear c12b0
            try clear c12b1
            try clear p12
            try clear q12
            try clear hx12
            try clear c16
            try clear c16b0
            try clear c17
            try clear c17b0
            try clear c18
            try clear c18b0
            try clear c19
            try clear c19b0
            try clear c20
            try clear c20b0
            try clear c21
            try clear hx123_0
            try clear hx124_0
            try clear hx124_1
            try clear p123
            try clear p124
            try clear p2
            try clear p6
            try clear q123
            try clear q124
            obtain ⟨x10_4, x48_4, rfl, rfl, HA, HK4, HO_4, HO_6, HO_7, HB⟩ := hrel
            cases gk with
            | zero => exact absurd HA.out (by simp [spec_Triangulate.l3])
            | succ k4 =>
             have H := HA.out; clear HA; simp only [spec_Triangulate.l3] at H
             by_cases c24 : x48_4 < (x7_3.length : Int)
             ·rw [if_pos c24] at H; have c24b0 : decide (x48_4 < (x7_3.length : Int)) = true := decide_eq_true c24; clear c24
              by_cases c25 : x10_4 < 0
              ·rw [if_pos c25] at H; have c25b0 : decide (x10_4 < 0) = true := decide_eq_true c25; clear c25; replace H := Option.bind_eq_some_iff.mp H; obtain ⟨t128, A260, H⟩ := H; replace H : (if t128 = true then (spec_Triangulate.l3 k4 l0 x4_2 x6_2 x7_3 x48_4 (x7_3.length : Int) (wrap64 (x48_4 + 1))) else (spec_Triangulate.l3 k4 l0 x4_2 x6_2 x7_3 x10_4 (x7_3.length : Int) (wrap64 (x48_4 + 1)))) = some (r1, r2) := H; have A26 := Ak A260; clear A260
               by_cases c27 : t128 = true
               ·subst c27; have H1 : (spec_Triangulate.l3 k4 l0 x4_2 x6_2 x7_3 x48_4 (x7_3.length : Int) (wrap64 (x48_4 + 1))) = some (r1, r2) := by rw [if_pos rfl] at H; exact H
                clear H; have H := H1; clear H1; have H' := Ak H; clear H
                go_wp2_with (first | (go_at_call 87; (with_reducible refine (spec_l05Ear.calls k4 _ _ x7_3 x48_4 true _ ?side1 ?side2 A26.out).mono ?_); (case side1 => repeat (first | exact (Kd.R_reads' HO_7.out).2.2 | (with_reducible refine Kd.C_alloc ?_ _) | (with_reducible refine Kd.C_drewN ?_ _) | (with_reducible refine Kd.C_drew ?_))); (case side2 => exact (Kd.R_reads' HO_7.out).2.1); rintro e w28 ⟨rfl, hb⟩; have n0_ := Ak (Kd.R_below (by (with_reducible repeat (first | apply Kd.R_alloc | apply Kd.R_drewN | apply Kd.R_drew)); exact HO_4.out) hb); have n1_ := Ak (Kd.S_below (by (with_reducible repeat (first | apply Kd.S_alloc | apply Kd.S_drewN | apply Kd.S_drew)); exact HO_6.out) hb); have n2_ := Ak (Kd.R_below (by (with_reducible repeat (first | apply Kd.R_alloc | apply Kd.R_drewN | apply Kd.R_drew)); exact HO_7.out) hb); have n3_ := Ak (below_step (by repeat (first | exact HB.out | apply bA | apply bD | apply bE)) hb); clear HO_4; clear HO_6; clear HO_7; clear HB; have HO_4 := n0_; have HO_6 := n1_; have HO_7 := n2_; have HB := n3_; clear n0_ n1_ n2_ n3_; (try clear hb); (try clear hb2); (try clear hk); (try clear hi)))
                go_roundg k4
                case measure => have := HK1.out; have := HK2.out; have := HK3.out; have := HK4.out; omega
                case rel => exact ⟨(x48_4), (wrap64 (x48_4 + 1)), (by first | rfl | (simp; done) | (simp [*]; done)), (by first | rfl | (simp; done) | (simp [*]; done)), H', ⟨by have := HK1.out; have := HK2.out; have := HK3.out; have := HK4.out; omega⟩, ⟨by (with_reducible repeat (first | apply Kd.R_alloc | apply Kd.R_drewN | apply Kd.R_drew)); exact HO_4.out⟩, ⟨by (with_reducible repeat (first | apply Kd.S_alloc | apply Kd.S_drewN | apply Kd.S_drew)); exact HO_6.out⟩, ⟨by (with_reducible repeat (first | apply Kd.R_alloc | apply Kd.R_drewN | apply Kd.R_drew)); exact HO_7.out⟩, ⟨by repeat (first | (with_reducible first | exact HB.out | apply bA | apply bD | apply bE) | exact HB.out)⟩⟩
               ·replace c27 := Bool.eq_false_iff.mpr c27; subst c27; have H1 : (spec_Triangulate.l3 k4 l0 x4_2 x6_2 x7_3 x10_4 (x7_3.length : Int) (wrap64 (x48_4 + 1))) = some (r1, r2) := by rw [if_neg (show ¬ (false = true) by decide)] at H; exact H
                clear H; have H := H1; clear H1; have H' := Ak H; clear H
                go_wp2_with (first | (go_at_call 87; (with_reducible refine (spec_l05Ear.calls k4 _ _ x7_3 x48_4 false _ ?side1 ?side2 A26.out).mono ?_); (case side1 => repeat (first | exact (Kd.R_reads' HO_7.out).2.2 | (with_reducible refine Kd.C_alloc ?_ _) | (with_reducible refine Kd.C_drewN ?_ _) | (with_reducible refine Kd.C_drew ?_))); (case side2 => exact (Kd.R_reads' HO_7.out).2.1); rintro e w29 ⟨rfl, hb⟩; have n0_ := Ak (Kd.R_below (by (with_reducible repeat (first | apply Kd.R_alloc | apply Kd.R_drewN | apply Kd.R_drew)); exact HO_4.out) hb); have n1_ := Ak (Kd.S_below (by (with_reducible repeat (first | apply Kd.S_alloc | apply Kd.S_drewN | apply Kd.S_drew)); exact HO_6.out) hb); have n2_ := Ak (Kd.R_below (by (with_reducible repeat (first | apply Kd.R_alloc | apply Kd.R_drewN | apply Kd.R_drew)); exact HO_7.out) hb); have n3_ := Ak (below_step (by repeat (first | exact HB.out | apply bA | apply bD | apply bE)) hb); clear HO_4; clear HO_6; clear HO_7; clear HB; have HO_4 := n0_; have HO_6 := n1_; have HO_7 := n2_; have HB := n3_; clear n0_ n1_ n2_ n3_; (try clear hb); (try clear hb2); (try clear hk); (try clear hi)))
                go_roundg k4
                case measure => have := HK1.out; have := HK2.out; have := HK3.out; have := HK4.out; omega
                case rel => exact ⟨(x10_4), (wrap64 (x48_4 + 1)), (by first | rfl | (simp; done) | (simp [*]; done)), (by first | rfl | (simp; done) | (simp [*]; done)), H', ⟨by have := HK1.out; have := HK2.out; have := HK3.out; have := HK4.out; omega⟩, ⟨by (with_reducible repeat (first | apply Kd.R_alloc | apply Kd.R_drewN | apply Kd.R_drew)); exact HO_4.out⟩, ⟨by (with_reducible repeat (first | apply Kd.S_alloc | apply Kd.S_drewN | apply Kd.S_drew)); exact HO_6.out⟩, ⟨by (with_reducible repeat (first | apply Kd.R_alloc | apply Kd.R_drewN | apply Kd.R_drew)); exact HO_7.out⟩, ⟨by repeat (first | (with_reducible first | exact HB.out | apply bA | apply bD | apply bE) | exact HB.out)⟩⟩
              ·rw [if_neg c25] at H; have c25b0 : decide (x10_4 < 0) = false := decide_eq_false c25; clear c25; have H' := Ak H; clear H
               go_wp2
               go_roundg k4
               case measure => have := HK1.out; have := HK2.out; have := HK3.out; have := HK4.out; omega
               case rel => exact ⟨(x10_4), (wrap64 (x48_4 + 1)), (by first | rfl | (simp; done) | (simp [*]; done)), (by first | rfl | (simp; done) | (simp [*]; done)), H', ⟨by have := HK1.out; have := HK2.out; have := HK3.out; have := HK4.out; omega⟩, ⟨by (with_reducible repeat (first | apply Kd.R_alloc | apply Kd.R_drewN | apply Kd.R_drew)); exact HO_4.out⟩, ⟨by (with_reducible repeat (first | apply Kd.S_alloc | apply Kd.S_drewN | apply Kd.S_drew)); exact HO_6.out⟩, ⟨by (with_reducible repeat (first | apply Kd.R_alloc | apply Kd.R_drewN | apply Kd.R_drew)); exact HO_7.out⟩, ⟨by repeat (first | (with_reducible first | exact HB.out | apply bA | apply bD | apply bE) | exact HB.out)⟩⟩
             ·rw [if_neg c24] at H; have c24b0 : decide (x48_4 < (x7_3.length : Int)) = false := decide_eq_false c24; clear c24
              by_cases c30 : x10_4 < 0
              ·rw [if_pos c30] at H; have c30b0 : decide (x10_4 < 0) = true := decide_eq_true c30; clear c30; simp only [Option.some.injEq, Prod.mk.injEq] at H; obtain ⟨rfl, rfl⟩ := H
               go_wp2
               go_ret2
               exact ⟨_, by first | rfl | (simp [*, errW_none, errW_some] <;> rfl), by first | exact Kd.S_nil _ _ _ _ _ | exact Kd.N_nil _ _ _ _ _ | exact Kd.V_nil _ _ _ _ _ | exact Kd.Q_nil _ _ _ _ _ | exact Kd.R_nil _ _ _ _ _, by repeat (first | (with_reducible first | exact HB.out | apply bA | apply bD | apply bE) | exact HB.out)⟩
              ·rw [if_neg c30] at H; have c30b0 : decide (x10_4 < 0) = false := decide_eq_false c30; clear c30
               by_cases c31 : (x4_2.length : Int) = 0
               ·rw [if_pos c31] at H; exact absurd H (by simp)
               ·rw [if_neg c31] at H; have c31b0 : ((x4_2.length : Int) == 0) = false := beq_eq_false_iff_ne.mpr c31; have c31b1 : ((x4_2.length : Int) != 0) = true := bne_iff_ne.mpr c31; have c31b2 : ¬ (x4_2 = []) := fun h_ => c31 (by rw [h_]; rfl)
                obtain ⟨ji32, hji32⟩ : ∃ j_ : Int, (Int.tmod (wrap64 ((wrap64 (x10_4 + (x4_2.length : Int))) - 1)) (x4_2.length : Int)) = j_ := ⟨_, rfl⟩; replace H : (if 0 ≤ (ji32) then (if (ji32) < (x4_2.length : Int) then (if 0 ≤ x10_4 then (if x10_4 < (x4_2.length : Int) then (if 0 ≤ (Int.tmod (wrap64 (x10_4 + 1)) (x4_2.length : Int)) then (if (Int.tmod (wrap64 (x10_4 + 1)) (x4_2.length : Int)) < (x4_2.length : Int) then ((spec_l05Three.f (rd x4_2 (ji32)) (rd x4_2 x10_4) (rd x4_2 (Int.tmod (wrap64 (x10_4 + 1)) (x4_2.length : Int)))).bind fun t132 => (if x6_2.length < 5864062014805 then ((some (([] : List Int) : List Int)).bind fun y138 => (if x10_4 ≤ (x4_2.length : Int) then ((some (x4_2.take (x10_4 : Int).toNat : List Int)).bind fun y141 => (if y138.length + y141.length < 17592186044416 then ((some (y138 ++ y141 : List Int)).bind fun y145 => (if 0 ≤ (wrap64 (x10_4 + 1)) then (if (wrap64 (x10_4 + 1)) ≤ (x4_2.length : Int) then ((some (x4_2.drop ((wrap64 (x10_4 + 1)) : Int).toNat : List Int)).bind fun y148 => (if y145.length + y148.length < 17592186044416 then (spec_Triangulate.l1 k4 l0 (y145 ++ y148) (x6_2 ++ [t132])) else (none))) else (none)) else (none))) else (none))) else (none))) else (none))) else (none)) else (none)) else (none)) else (none)) else (none)) else (none)) = some (r1, r2) := by first | (rw [hji32] at H; exact H) | (simp only [hji32] at H ⊢; exact H)
                by_cases c33 : 0 ≤ (ji32)
                ·rw [if_pos c33] at H; have c33b0 : decide (0 ≤ (ji32)) = true := decide_eq_true c33; clear c33
                 by_cases c34 : (ji32) < (x4_2.length : Int)
                 ·rw [if_pos c34] at H; have c34b0 : decide ((ji32) < (x4_2.length : Int)) = true := decide_eq_true c34; clear c34
                  by_cases c35 : 0 ≤ x10_4
                  ·rw [if_pos c35] at H; have c35b0 : decide (0 ≤ x10_4) = true := decide_eq_true c35; clear c35
                   by_cases c36 : x10_4 < (x4_2.length : Int)
                   ·rw [if_pos c36] at H; have c36b0 : decide (x10_4 < (x4_2.length : Int)) = true := decide_eq_true c36; clear c36; obtain ⟨ji37, hji37⟩ : ∃ j_ : Int, (Int.tmod (wrap64 (x10_4 + 1)) (x4_2.length : Int)) = j_ := ⟨_, rfl⟩; replace H : (if 0 ≤ (ji37) then (if (ji37) < (x4_2.length : Int) then ((spec_l05Three.f (rd x4_2 (ji32)) (rd x4_2 x10_4) (rd x4_2 (ji37))).bind fun t132 => (if x6_2.length < 5864062014805 then ((some (([] : List Int) : List Int)).bind fun y138 => (if x10_4 ≤ (x4_2.length : Int) then ((some (x4_2.take (x10_4 : Int).toNat : List Int)).bind fun y141 => (if y138.length + y141.length < 17592186044416 then ((some (y138 ++ y141 : List Int)).bind fun y145 => (if 0 ≤ (wrap64 (x10_4 + 1)) then (if (wrap64 (x10_4 + 1)) ≤ (x4_2.length : Int) then ((some (x4_2.drop ((wrap64 (x10_4 + 1)) : Int).toNat : List Int)).bind fun y148 => (if y145.length + y148.length < 17592186044416 then (spec_Triangulate.l1 k4 l0 (y145 ++ y148) (x6_2 ++ [t132])) else (none))) else (none)) else (none))) else (none))) else (none))) else (none))) else (none)) else (none)) = some (r1, r2) := by first | (rw [hji37] at H; exact H) | (simp only [hji37] at H ⊢; exact H)
                    by_cases c38 : 0 ≤ (ji37)
                    ·rw [if_pos c38] at H; have c38b0 : decide (0 ≤ (ji37)) = true := decide_eq_true c38; clear c38
                     by_cases c39 : (ji37) < (x4_2.length : Int)
                     ·rw [if_pos c39] at H; have c39b0 : decide ((ji37) < (x4_2.length : Int)) = true := decide_eq_true c39; clear c39; replace H := Option.bind_eq_some_iff.mp H; obtain ⟨t132, A400, H⟩ := H; replace H : (if x6_2.length < 5864062014805 then ((some (([] : List Int) : List Int)).bind fun y138 => (if x10_4 ≤ (x4_2.length : Int) then ((some (x4_2.take (x10_4 : Int).toNat : List Int)).bind fun y141 => (if y138.length + y141.length < 17592186044416 then ((some (y138 ++ y141 : List Int)).bind fun y145 => (if 0 ≤ (wrap64 (x10_4 + 1)) then (if (wrap64 (x10_4 + 1)) ≤ (x4_2.length : Int) then ((some (x4_2.drop ((wrap64 (x10_4 + 1)) : Int).toNat : List Int)).bind fun y148 => (if y145.length + y148.length < 17592186044416 then (spec_Triangulate.l1 k4 l0 (y145 ++ y148) (x6_2 ++ [t132])) else (none))) else (none)) else (none))) else (none))) else (none))) else (none)) = some (r1, r2) := H; have A40 := Ak A400; clear A400
                      by_cases c41 : x6_2.length < 5864062014805
                      ·rw [if_pos c41] at H; have LMc41 := Ak c41; clear c41; obtain ⟨y135, hy135⟩ : ∃ y_ : List (List Int), y_ = (x6_2 ++ [t132]) := ⟨_, rfl⟩; replace H : ((some (([] : List Int) : List Int)).bind fun y138 => (if x10_4 ≤ (x4_2.length : Int) then ((some (x4_2.take (x10_4 : Int).toNat : List Int)).bind fun y141 => (if y138.length + y141.length < 17592186044416 then ((some (y138 ++ y141 : List Int)).bind fun y145 => (if 0 ≤ (wrap64 (x10_4 + 1)) then (if (wrap64 (x10_4 + 1)) ≤ (x4_2.length : Int) then ((some (x4_2.drop ((wrap64 (x10_4 + 1)) : Int).toNat : List Int)).bind fun y148 => (if y145.length + y148.length < 17592186044416 then (spec_Triangulate.l1 k4 l0 (y145 ++ y148) y135) else (none))) else (none)) else (none))) else (none))) else (none))) = some (r1, r2) := by first | (rw [hy135]; exact H) | exact H
                       have Ny135 := Ak hy135; clear hy135; obtain ⟨y138, hy138⟩ : ∃ y_ : List Int, y_ = (([] : List Int)) := ⟨_, rfl⟩; replace H : (if x10_4 ≤ (x4_2.length : Int) then ((some (x4_2.take (x10_4 : Int).toNat : List Int)).bind fun y141 => (if y138.length + y141.length < 17592186044416 then ((some (y138 ++ y141 : List Int)).bind fun y145 => (if 0 ≤ (wrap64 (x10_4 + 1)) then (if (wrap64 (x10_4 + 1)) ≤ (x4_2.length : Int) then ((some (x4_2.drop ((wrap64 (x10_4 + 1)) : Int).toNat : List Int)).bind fun y148 => (if y145.length + y148.length < 17592186044416 then (spec_Triangulate.l1 k4 l0 (y145 ++ y148) y135) else (none))) else (none)) else (none))) else (none))) else (none)) = some (r1, r2) := by first | (rw [hy138]; exact H) | exact H
                       have Ny138 := Ak hy138; clear hy138; have c42b0 := eq_true (of_decide_eq_true (by first | (with_reducible assumption) | assumption) : 0 ≤ x10_4)
                       by_cases c43 : x10_4 ≤ (x4_2.length : Int)
                       ·rw [if_pos c43] at H; have c43b0 := eq_true c43; have c43b1 : decide (x10_4 ≤ (x4_2.length : Int)) = true := decide_eq_true c43; clear c43; obtain ⟨y141, hy141⟩ : ∃ y_ : List Int, y_ = (x4_2.take (x10_4 : Int).toNat) := ⟨_, rfl⟩; replace H : (if y138.length + y141.length < 17592186044416 then ((some (y138 ++ y141 : List Int)).bind fun y145 => (if 0 ≤ (wrap64 (x10_4 + 1)) then (if (wrap64 (x10_4 + 1)) ≤ (x4_2.length : Int) then ((some (x4_2.drop ((wrap64 (x10_4 + 1)) : Int).toNat : List Int)).bind fun y148 => (if y145.length + y148.length < 17592186044416 then (spec_Triangulate.l1 k4 l0 (y145 ++ y148) y135) else (none))) else (none)) else (none))) else (none)) = some (r1, r2) := by first | (rw [hy141]; exact H) | exact H
                        have Ny141 := Ak hy141; clear hy141
                        by_cases c44 : y138.length + y141.length < 17592186044416
                        ·rw [if_pos c44] at H; have LMc44 := Ak c44; clear c44; obtain ⟨y145, hy145⟩ : ∃ y_ : List Int, y_ = (y138 ++ y141) := ⟨_, rfl⟩; replace H : (if 0 ≤ (wrap64 (x10_4 + 1)) then (if (wrap64 (x10_4 + 1)) ≤ (x4_2.length : Int) then ((some (x4_2.drop ((wrap64 (x10_4 + 1)) : Int).toNat : List Int)).bind fun y148 => (if y145.length + y148.length < 17592186044416 then (spec_Triangulate.l1 k4 l0 (y145 ++ y148) y135) else (none))) else (none)) else (none)) = some (r1, r2) := by first | (rw [hy145]; exact H) | exact H
                         have Ny145 := Ak hy145; clear hy145; obtain ⟨ji45, hji45⟩ : ∃ j_ : Int, (wrap64 (x10_4 + 1)) = j_ := ⟨_, rfl⟩; replace H : (if 0 ≤ (ji45) then (if (ji45) ≤ (x4_2.length : Int) then ((some (x4_2.drop ((ji45) : Int).toNat : List Int)).bind fun y148 => (if y145.length + y148.length < 17592186044416 then (spec_Triangulate.l1 k4 l0 (y145 ++ y148) y135) else (none))) else (none)) else (none)) = some (r1, r2) := by first | (rw [hji45] at H; exact H) | (simp only [hji45] at H ⊢; exact H)
                         (try rw [hji45] at A40); have hji45w : (IntKind.i64.wrap (x10_4 + 1)) = ji45 := (i64_w _).trans hji45; have hji37v : Int.tmod (ji45) (x4_2.length : Int) = ji37 := by rw [← hji45]; exact hji37
                         by_cases c46 : 0 ≤ (ji45)
                         ·rw [if_pos c46] at H; have c46b0 := eq_true c46; have c46b1 : decide (0 ≤ (ji45)) = true := decide_eq_true c46; clear c46
                          by_cases c47 : (ji45) ≤ (x4_2.length : Int)
                          ·rw [if_pos c47] at H; have c47b0 := eq_true c47; have c47b1 : decide ((ji45) ≤ (x4_2.length : Int)) = true := decide_eq_true c47; clear c47; obtain ⟨y148, hy148⟩ : ∃ y_ : List Int, y_ = (x4_2.drop ((ji45) : Int).toNat) := ⟨_, rfl⟩; replace H : (if y145.length + y148.length < 17592186044416 then (spec_Triangulate.l1 k4 l0 (y145 ++ y148) y135) else (none)) = some (r1, r2) := by first | (rw [hy148]; exact H) | exact H
                           have Ny148 := Ak hy148; clear hy148
                           by_cases c48 : y145.length + y148.length < 17592186044416
                           ·rw [if_pos c48] at H; have LMc48 := Ak c48; clear c48; obtain ⟨y152, hy152⟩ : ∃ y_ : List Int, y_ = (y145 ++ y148) := ⟨_, rfl⟩; replace H : (spec_Triangulate.l1 k4 l0 y152 y135) = some (r1, r2) := by first | (rw [hy152]; exact H) | exact H
                            have Ny152 := Ak hy152; clear hy152; have H' := Ak H; clear H
                            try go_wp2
                            have n0_ := Ak (Kd.R_drew HO_4.out); have n1_ := Ak (Kd.S_drew HO_6.out); have n2_ := Ak (Kd.R_drew HO_7.out); have n3_ := Ak (below_drew1 HB.out); clear HO_4 HO_6 HO_7 HB; have HO_4 := n0_; have HO_6 := n1_; have HO_7 := n2_; have HB := n3_; clear n0_ n1_ n2_ n3_; have p129 : 0 ≤ ((ji32) : Int) := of_decide_eq_true (by first | (with_reducible assumption) | assumption); have q129 : (ji32) < (x4_2.length : Int) := of_decide_eq_true (by first | (with_reducible assumption) | assumption); obtain ⟨ad129, e129, hx129_0⟩ := Kd.at_int (Kd.R_reads' HO_4.out).2.2 (ji32) p129 q129; cases e129; replace p129 := eq_true p129; replace q129 := eq_true q129; have p130 : 0 ≤ (x10_4 : Int) := of_decide_eq_true (by first | (with_reducible assumption) | assumption); have q130 : x10_4 < (x4_2.length : Int) := of_decide_eq_true (by first | (with_reducible assumption) | assumption); obtain ⟨ad130, e130, hx130_0⟩ := Kd.at_int (Kd.R_reads' HO_4.out).2.2 x10_4 p130 q130; obtain rfl : ad129 = ad130 := (by injection e130); replace p130 := eq_true p130; replace q130 := eq_true q130; have p131 : 0 ≤ ((ji37) : Int) := of_decide_eq_true (by first | (with_reducible assumption) | assumption); have q131 : (ji37) < (x4_2.length : Int) := of_decide_eq_true (by first | (with_reducible assumption) | assumption); obtain ⟨ad131, e131, hx131_0⟩ := Kd.at_int (Kd.R_reads' HO_4.out).2.2 (ji37) p131 q131; obtain rfl : ad129 = ad131 := (by injection e131); replace p131 := eq_true p131; replace q131 := eq_true q131; refine start_ (n := 25) (S := fun w' => w'.cell? (ad129.add ((ji32)).toNat) = some (.int .i64 (rd x4_2 (ji32))) ∧ w'.cell? (ad129.add (x10_4).toNat) = some (.int .i64 (rd x4_2 x10_4)) ∧ w'.cell? (ad129.add ((ji37)).toNat) = some (.int .i64 (rd x4_2 (ji37)))) (ds := [22, 23]) #[F,F,F,F,F,F,F,F,F,F,F,F,F,F,F,F,F,F,F,F,F,F,F,F,F] (by kernel_rfl) rfl rfl ⟨hx129_0, hx130_0, hx131_0⟩ (fun hHeld => ?_); refine with_tabW spec_Triangulate.tab27 spec_Triangulate.bits27 (fun HT_ HW_ => ?_); generalize wr.drew = w49 at HO_4 HO_6 HO_7 HB hx129_0 hx130_0 hx131_0 hHeld ⊢; refine pure_ (i := 0) (N := some 64) (v := ?_) (a' := ?_) #[T,F,F,F,F,F,F,F,F,F,F,F,F,F,F,F,F,F,F,F,F,F,F,F,F] rfl rfl (any_of HT_.out (by kernel_rfl)) (fun _ _ _ h => h) (Or.inl ⟨by rfl, ?_⟩) ?_ ?_; rotate_left
                            ·intro w'; go_simp; with_reducible rfl
                            rotate_left
                            ·simp only [Act.put, sA, sB, sC, sD, sE]; rfl
                            refine pure_ (i := 1) (N := some 65) (v := ?_) (a' := ?_) #[T,T,F,F,F,F,F,F,F,F,F,F,F,F,F,F,F,F,F,F,F,F,F,F,F] rfl rfl (any_of HT_.out (by kernel_rfl)) (fun _ _ _ h => h) (Or.inl ⟨by rfl, ?_⟩) ?_ ?_; rotate_left
                            ·intro w'; go_simp; with_reducible rfl
                            rotate_left
                            ·simp only [Act.put, sA, sB, sC, sD, sE]; rfl
                            refine pure_ (i := 2) (N := some 66) (v := ?_) (a' := ?_) #[T,T,T,F,F,F,F,F,F,F,F,F,F,F,F,F,F,F,F,F,F,F,F,F,F] rfl rfl (any_of HT_.out (by kernel_rfl)) (fun _ _ _ h => h) (Or.inl ⟨by rfl, ?_⟩) ?_ ?_; rotate_left
                            ·intro w'; go_simp; with_reducible rfl
                            rotate_left
                            ·simp only [Act.put, sA, sB, sC, sD, sE]; rfl
                            refine pure_ (i := 3) (N := some 67) (v := ?_) (a' := ?_) #[T,T,T,T,F,F,F,F,F,F,F,F,F,F,F,F,F,F,F,F,F,F,F,F,F] rfl rfl (any_of HT_.out (by kernel_rfl)) (fun _ _ _ h => h) (Or.inl ⟨by rfl, ?_⟩) ?_ ?_; rotate_left
                            ·intro w'; go_simp; with_reducible rfl
                            rotate_left
                            ·simp only [Act.put, sA, sB, sC, sD, sE]; rfl
                            refine pure_ (i := 4) (N := some 68) (v := ?_) (a' := ?_) #[T,T,T,T,T,F,F,F,F,F,F,F,F,F,F,F,F,F,F,F,F,F,F,F,F] rfl rfl (any_of HT_.out (by kernel_rfl)) (fun _ _ _ h => h) (Or.inl ⟨by rfl, ?_⟩) ?_ ?_; rotate_left
                            ·intro w'; go_simp; with_reducible rfl
                            rotate_left
                            ·simp only [Act.put, sA, sB, sC, sD, sE]; rfl
                            refine pure_ (i := 5) (N := some 69) (v := ?_) (a' := ?_) #[T,T,T,T,T,T,F,F,F,F,F,F,F,F,F,F,F,F,F,F,F,F,F,F,F] rfl rfl (any_of HT_.out (by kernel_rfl)) (fun _ _ _ h => h) (Or.inl ⟨by rfl, ?_⟩) ?_ ?_; rotate_left
                            ·intro w'; go_simp; with_reducible rfl
                            rotate_left
                            ·simp only [Act.put, sA, sB, sC, sD, sE]; rfl
                            refine pure_ (i := 6) (N := some 70) (v := ?_) (a' := ?_) #[T,T,T,T,T,T,T,F,F,F,F,F,F,F,F,F,F,F,F,F,F,F,F,F,F] rfl rfl (any_of HT_.out (by kernel_rfl)) (fun _ _ _ h => h) (Or.inl ⟨by rfl, ?_⟩) ?_ ?_; rotate_left
                            ·intro w'; go_simp; with_reducible rfl
                            rotate_left
                            ·simp only [Act.put, sA, sB, sC, sD, sE]; rfl
                            refine pure_ (i := 7) (N := some 71) (v := ?_) (a' := ?_) #[T,T,T,T,T,T,T,T,F,F,F,F,F,F,F,F,F,F,F,F,F,F,F,F,F] rfl rfl (any_of HT_.out (by kernel_rfl)) (fun _ _ _ h => h) (Or.inl ⟨by rfl, ?_⟩) ?_ ?_; rotate_left
                            ·intro w'; go_simp; with_reducible rfl
                            rotate_left
                            ·simp only [Act.put, sA, sB, sC, sD, sE]; rfl
                            refine pure_ (i := 8) (N := some 72) (v := ?_) (a' := ?_) #[T,T,T,T,T,T,T,T,T,F,F,F,F,F,F,F,F,F,F,F,F,F,F,F,F] rfl rfl (any_of HT_.out (by kernel_rfl)) (fun _ _ _ h => h) (Or.inl ⟨by rfl, ?_⟩) ?_ ?_; rotate_left
                            ·intro w'; go_simp; with_reducible rfl
                            rotate_left
                            ·simp only [Act.put, sA, sB, sC, sD, sE]; rfl
                            refine pure_ (i := 10) (N := some 74) (v := ?_) (a' := ?_) #[T,T,T,T,T,T,T,T,T,F,T,F,F,F,F,F,F,F,F,F,F,F,F,F,F] rfl rfl (any_of HT_.out (by kernel_rfl)) (fun _ _ _ h => h) (Or.inl ⟨by rfl, ?_⟩) ?_ ?_; rotate_left
                            ·intro w'; go_simp; with_reducible rfl
                            rotate_left
                            ·simp only [Act.put, sA, sB, sC, sD, sE]; rfl
                            refine pure_ (i := 11) (N := some 75) (v := ?_) (a' := ?_) #[T,T,T,T,T,T,T,T,T,F,T,T,F,F,F,F,F,F,F,F,F,F,F,F,F] rfl rfl (any_of HT_.out (by kernel_rfl)) (fun _ _ _ h => h) (Or.inl ⟨by rfl, ?_⟩) ?_ ?_; rotate_left
                            ·intro w'; go_simp; with_reducible rfl
                            rotate_left
                            ·simp only [Act.put, sA, sB, sC, sD, sE]; rfl
                            refine pure_ (i := 12) (N := some 76) (v := ?_) (a' := ?_) #[T,T,T,T,T,T,T,T,T,F,T,T,T,F,F,F,F,F,F,F,F,F,F,F,F] rfl rfl (any_of HT_.out (by kernel_rfl)) (fun _ _ _ h => h) (Or.inl ⟨by rfl, ?_⟩) ?_ ?_; rotate_left
                            ·intro w'; go_simp; with_reducible rfl
                            rotate_left
                            ·simp only [Act.put, sA, sB, sC, sD, sE]; rfl
                            refine pure_ (i := 14) (N := some 78) (v := ?_) (a' := ?_) #[T,T,T,T,T,T,T,T,T,F,T,T,T,F,T,F,F,F,F,F,F,F,F,F,F] rfl rfl (any_of HT_.out (by kernel_rfl)) (fun _ _ _ h => h) (Or.inl ⟨by rfl, ?_⟩) ?_ ?_; rotate_left
                            ·intro w'; go_simp; with_reducible rfl
                            rotate_left
                            ·simp only [Act.put, sA, sB, sC, sD, sE]; rfl
                            refine pure_ (i := 15) (N := some 79) (v := ?_) (a' := ?_) #[T,T,T,T,T,T,T,T,T,F,T,T,T,F,T,T,F,F,F,F,F,F,F,F,F] rfl rfl (any_of HT_.out (by kernel_rfl)) (fun _ _ _ h => h) (Or.inl ⟨by rfl, ?_⟩) ?_ ?_; rotate_left
                            ·intro w'; go_simp; with_reducible rfl
                            rotate_left
                            ·simp only [Act.put, sA, sB, sC, sD, sE]; rfl
                            refine pure_ (i := 16) (N := some 80) (v := ?_) (a' := ?_) #[T,T,T,T,T,T,T,T,T,F,T,T,T,F,T,T,T,F,F,F,F,F,F,F,F] rfl rfl (any_of HT_.out (by kernel_rfl)) (fun _ _ _ h => h) (Or.inl ⟨by rfl, ?_⟩) ?_ ?_; rotate_left
                            ·intro w'; go_simp; with_reducible rfl
                            rotate_left
                            ·simp only [Act.put, sA, sB, sC, sD, sE]; rfl
                            refine pure_ (i := 17) (N := some 81) (v := ?_) (a' := ?_) #[T,T,T,T,T,T,T,T,T,F,T,T,T,F,T,T,T,T,F,F,F,F,F,F,F] rfl rfl (any_of HT_.out (by kernel_rfl)) (fun _ _ _ h => h) (Or.inl ⟨by rfl, ?_⟩) ?_ ?_; rotate_left
                            ·intro w'; go_simp; with_reducible rfl
                            rotate_left
                            ·simp only [Act.put, sA, sB, sC, sD, sE]; rfl
                            refine pure_ (i := 18) (N := some 82) (v := ?_) (a' := ?_) #[T,T,T,T,T,T,T,T,T,F,T,T,T,F,T,T,T,T,T,F,F,F,F,F,F] rfl rfl (any_of HT_.out (by kernel_rfl)) (fun _ _ _ h => h) (Or.inl ⟨by rfl, ?_⟩) ?_ ?_; rotate_left
                            ·intro w'; go_simp; with_reducible rfl
                            rotate_left
                            ·simp only [Act.put, sA, sB, sC, sD, sE]; rfl
                            refine pure_ (i := 19) (N := some 83) (v := ?_) (a' := ?_) #[T,T,T,T,T,T,T,T,T,F,T,T,T,F,T,T,T,T,T,T,F,F,F,F,F] rfl rfl (any_of HT_.out (by kernel_rfl)) (fun _ _ _ h => h) (Or.inl ⟨by rfl, ?_⟩) ?_ ?_; rotate_left
                            ·intro w'; go_simp; with_reducible rfl
                            rotate_left
                            ·simp only [Act.put, sA, sB, sC, sD, sE]; rfl
                            refine take_ (i := 9) (N := some 73) (v := ?_) (a' := ?_) #[T,T,T,T,T,T,T,T,T,T,T,T,T,F,T,T,T,T,T,T,F,F,F,F,F] rfl rfl (take_ofW HT_.out HW_.out (by kernel_rfl)) (fun _ _ _ h => h) (Or.inl ⟨by rfl, ?_⟩) hHeld ?_ ?_; rotate_left
                            ·rintro w' ⟨s0, s1, s2⟩; go_simp; with_reducible rfl
                            rotate_left
                            ·simp only [Act.put, sA, sB, sC, sD, sE]; rfl
                            refine take_ (i := 13) (N := some 77) (v := ?_) (a' := ?_) #[T,T,T,T,T,T,T,T,T,T,T,T,T,T,T,T,T,T,T,T,F,F,F,F,F] rfl rfl (take_ofW HT_.out HW_.out (by kernel_rfl)) (fun _ _ _ h => h) (Or.inl ⟨by rfl, ?_⟩) hHeld ?_ ?_; rotate_left
                            ·rintro w' ⟨s0, s1, s2⟩; go_simp; with_reducible rfl
                            rotate_left
                            ·simp only [Act.put, sA, sB, sC, sD, sE]; rfl
                            refine take_ (i := 20) (N := some 84) (v := ?_) (a' := ?_) #[T,T,T,T,T,T,T,T,T,T,T,T,T,T,T,T,T,T,T,T,T,F,F,F,F] rfl rfl (take_ofW HT_.out HW_.out (by kernel_rfl)) (fun _ _ _ h => h) (Or.inl ⟨by rfl, ?_⟩) hHeld ?_ ?_; rotate_left
                            ·rintro w' ⟨s0, s1, s2⟩; go_simp; with_reducible rfl
                            rotate_left
                            ·simp only [Act.put, sA, sB, sC, sD, sE]; rfl
                            refine one_ (i := 21) (N := some 85) #[T,T,T,T,T,T,T,T,T,T,T,T,T,T,T,T,T,T,T,T,T,T,F,F,F] rfl rfl (one_of HT_.out (by kernel_rfl)) (by decide) (fun K hK => ?_); refine goes_ Try.func88 (by kernel_rfl) rfl #[.int .i64 (rd x4_2 (ji32)), .int .i64 (rd x4_2 x10_4), .int .i64 (rd x4_2 (ji37))] (by rfl) rfl rfl (by (try simp only [List.map_toArray, List.map_cons, List.map_nil]); first | done | (simp only [hji32, hji37]; rfl) | rfl | (simp only [List.length_drop, List.length_take]; rfl)) ?_
                            with_reducible refine (spec_l05Three.calls (rd x4_2 (ji32)) (rd x4_2 x10_4) (rd x4_2 (ji37)) t132 _ A40.out).mono ?_
                            rintro e w50 ⟨v133, rfl, ho0, hb⟩; have HS0_ := (hb.cell (World.block_lt_of_cell? _ _ (hHeld.1))).trans (hHeld.1); have HS1_ := (hb.cell (World.block_lt_of_cell? _ _ (hHeld.2.1))).trans (hHeld.2.1); have HS2_ := (hb.cell (World.block_lt_of_cell? _ _ (hHeld.2.2))).trans (hHeld.2.2); refine ⟨_, rfl, ?_⟩; have n0_ := Ak (Kd.R_elder' (by (with_reducible repeat (first | apply Kd.R_alloc | apply Kd.R_drewN | apply Kd.R_drew)); exact HO_4.out) (Kd.R_base ho0) hb); have n1_ := Ak (Kd.S_elder' (by (with_reducible repeat (first | apply Kd.S_alloc | apply Kd.S_drewN | apply Kd.S_drew)); exact HO_6.out) (Kd.R_base ho0) hb); have n2_ := Ak (Kd.R_below (by (with_reducible repeat (first | apply Kd.R_alloc | apply Kd.R_drewN | apply Kd.R_drew)); exact HO_7.out) hb); have n3_ := Ak (Kd.R_lower (Kd.R_new' ho0 (Kd.R_lt (by (with_reducible repeat (first | apply Kd.R_alloc | apply Kd.R_drewN | apply Kd.R_drew)); exact HO_4.out))) (below_size (by repeat (first | exact HB.out | apply bA | apply bD | apply bE)))); have n4_ := Ak (below_step (by repeat (first | exact HB.out | apply bA | apply bD | apply bE)) hb); clear HO_4 HO_6 HO_7 HB; have HO_4 := n0_; have HO_6 := n1_; have HO_7 := n2_; have HO134 := n3_; have HB := n4_; clear n0_ n1_ n2_ n3_ n4_; (try clear hb); (try clear hb2); (try clear hk); (try clear hi); (try clear ho0); obtain ⟨Ao52, co52, eo52⟩ := Kd.R_slice HO134.out
                            (first | subst eo52 | (injection eo52 with f1_ f2_ f3_; have f4_ := f1_.symm; have f5_ := f3_.symm; clear f1_ f2_ f3_; subst f4_; subst f5_))
                            refine hK.out _ _ ⟨HS0_, HS1_, HS2_⟩ (fun hHeld => ?_); clear hK K; refine norm_ (a' := ?_) ?_ ?_; rotate_left
                            ·show Act.put _ (some 85) _ = _; simp only [Act.put, sA, sB, sC, sD, sE]; rfl
                            refine last_ (i := 22) (N := some 86) #[T,T,T,T,T,T,T,T,T,T,T,T,T,T,T,T,T,T,T,T,T,T,T,F,F] rfl rfl (one_of HT_.out (by kernel_rfl)) (by decide) (fun K hK => ?_); refine value_ (w1 := ?_) (v := ?_) (by rfl) rfl ?_ ?_; rotate_left 2
                            ·go_simp
                             constructor
                             ·rfl
                             ·rfl
                            refine hK.out _ _ ?_; clear hK K; refine norm_ (a' := ?_) ?_ ?_; rotate_left
                            ·show Act.put _ (some 86) _ = _; simp only [Act.put, sA, sB, sC, sD, sE]; rfl
                            refine last_ (i := 23) (N := some 87) #[T,T,T,T,T,T,T,T,T,T,T,T,T,T,T,T,T,T,T,T,T,T,T,T,F] rfl rfl (one_of HT_.out (by kernel_rfl)) (by decide) (fun K hK => ?_); refine Kd.S_append_step (Kd.slice 3 (Kd.int .i64)) (w0 := w) w.heap.size (by rfl) (.tmp 64) (.tmp 86) 49 78 (.slice none 0 0) 24 rfl Try.underlying49 info78 rfl (by decide) (by omega) u6 x6_2 t132 [.slice Ao52 t132.length co52] (fun k_ => some k_ ≠ (.slice (some ad129) x4_2.length co13 : Value).ownBlock) (fun k_ => some k_ = (.slice Ao52 t132.length co52 : Value).ownBlock) rfl rfl ?aP (fun k_ hk_ => ((Kd.R_mono (ok' := fun k_ => ((fun k_ => some k_ ≠ (.slice (some ad129) x4_2.length co13 : Value).ownBlock)) k_ ∧ some k_ ≠ (u6 : Value).ownBlock) (Kd.R_apart' (HO134.out) (Kd.S_typed HO_6.out) (by decide)) (fun k_ hk => ⟨hk.1.2, hk.2⟩))).1 k_ hk_.symm) ?aF ?aO ?aB ?aS ?aL ?_
                            (case aP => exact Kd.M_row (Kd.R_mono (Kd.R_tight rfl (Kd.R_mono (ok' := fun k_ => ((fun k_ => some k_ ≠ (.slice (some ad129) x4_2.length co13 : Value).ownBlock)) k_ ∧ some k_ ≠ (u6 : Value).ownBlock) (Kd.R_apart' (HO134.out) (Kd.S_typed HO_6.out) (by decide)) (fun k_ hk => ⟨hk.1.2, hk.2⟩))) (fun _ h_ => h_)))
                            (case aB => exact (by repeat (first | exact HB.out | apply bA | apply bD | apply bE)))
                            (case aF => exact (fun k_ hk => Kd.fresh' (Kd.R_lt (by (with_reducible repeat (first | apply Kd.R_alloc | apply Kd.R_drewN | apply Kd.R_drew)); exact HO_4.out)) k_ hk))
                            (case aO => exact (by (with_reducible repeat (first | apply Kd.S_alloc | apply Kd.S_drewN | apply Kd.S_drew)); exact Kd.S_mono HO_6.out (fun k_ hk => ⟨hk.1, fun e_ => hk.2 e_⟩)))
                            (case aS => exact (below_size (by repeat (first | exact HB.out | apply bA | apply bD | apply bE))))
                            (case aL => have := LMc41.out; omega)
                            intro v136 w51 ho hb hg hat; rw [← Ny135.out] at ho; have n0_ := Ak (Kd.R_over' (by (with_reducible repeat (first | apply Kd.R_alloc | apply Kd.R_drewN | apply Kd.R_drew)); exact HO_4.out) (Kd.S_typed (by (with_reducible repeat (first | apply Kd.S_alloc | apply Kd.S_drewN | apply Kd.S_drew)); exact HO_6.out)) (by decide) hg); have n1_ := Ak (Kd.R_over' (by (with_reducible repeat (first | apply Kd.R_alloc | apply Kd.R_drewN | apply Kd.R_drew)); exact HO_7.out) (Kd.S_typed (by (with_reducible repeat (first | apply Kd.S_alloc | apply Kd.S_drewN | apply Kd.S_drew)); exact HO_6.out)) (by decide) hg); have n2_ := Ak (hb); have n3_ := Ak (ho); clear HO_4 HO_7 HB HO_6 HO134; have HO_4 := n0_; have HO_7 := n1_; have HB := n2_; have HO137 := n3_; clear n0_ n1_ n2_ n3_ ho hb hg hat; refine hK.out _ _ ?_; clear hK K; refine norm_ (a' := ?_) ?_ ?_; rotate_left
                            ·show Act.put _ (some 87) _ = _; simp only [Act.put, sA, sB, sC, sD, sE]; rfl
                            refine pure_ (i := 24) (N := some 6) (v := ?_) (a' := ?_) #[T,T,T,T,T,T,T,T,T,T,T,T,T,T,T,T,T,T,T,T,T,T,T,T,T] rfl rfl (any_of HT_.out (by kernel_rfl)) (fun _ _ _ h => h) (Or.inl ⟨by rfl, ?_⟩) ?_ ?_; rotate_left
                            ·intro w'; go_simp; with_reducible rfl
                            rotate_left
                            ·simp only [Act.put, sA, sB, sC, sD, sE]; rfl
                            refine done_ (done_of HT_.out (by kernel_rfl)) ?_
                            try go_wp2
                            have n0_ := Ak (Kd.R_drew HO_4.out); have n1_ := Ak (Kd.R_drew HO_7.out); have n2_ := Ak (Kd.S_drew HO137.out); have n3_ := Ak (below_drew1 HB.out); clear HO_4 HO_7 HO137 HB; have HO_4 := n0_; have HO_7 := n1_; have HO137 := n2_; have HB := n3_; clear n0_ n1_ n2_ n3_; have q54 : (x10_4 : Int) ≤ ((x4_2.length : Int) : Int) := of_decide_eq_true (by first | (with_reducible assumption) | assumption); obtain ⟨i054, hi054, _, hsz54, _⟩ := info_parts info3; have hroom54 : x4_2.length ≤ co13 := (Kd.R_reads' HO_4.out).2.1; have hC54 : Kd.C (Kd.int .i64) _ (some ad129) x4_2.length x4_2 := (Kd.R_reads' HO_4.out).2.2; have hcut54 := cut_to (P := Try.prog) 78 3 .i64 Try.underlying78 hi054 (some ad129) x4_2.length co13 x10_4 (of_decide_eq_true (by first | (with_reducible assumption) | assumption)) q54 hroom54; have hr54 := Kd.C_take (m := (x10_4 : Int).toNat) hC54 (by omega); have hy54 : y141.length = (x10_4 : Int).toNat := (by rw [Ny141.out, List.length_take]; omega); rw [← Ny141.out] at hr54; rw [← hy54] at hcut54; have HR144 := Ak hr54; have HC144 := Ak (show y141.length ≤ co13 from by omega); clear hr54 hC54 hroom54 hi054 hsz54; have KY54 := Ak hy54; clear hy54; have KL54 := Ak (show (x10_4 : Int).toNat ≤ x4_2.length from by omega); replace q54 := eq_true q54; have q55 : ((ji45) : Int) ≤ ((x4_2.length : Int) : Int) := of_decide_eq_true (by first | (with_reducible assumption) | assumption); obtain ⟨i055, hi055, _, hsz55, _⟩ := info_parts info3; have hroom55 : x4_2.length ≤ co13 := (Kd.R_reads' HO_4.out).2.1; have hC55 : Kd.C (Kd.int .i64) _ (some ad129) x4_2.length x4_2 := (Kd.R_reads' HO_4.out).2.2; have q055 : (0 : Int) ≤ ((ji45) : Int) := of_decide_eq_true (by first | (with_reducible assumption) | assumption); have hcut55 := cut_from (P := Try.prog) 78 3 .i64 Try.underlying78 hi055 1 hsz55 (some ad129) x4_2.length co13 (ji45) q055 q55; have hr55 := Kd.C_drop (m := ((ji45) : Int).toNat) (c := co13) hC55 (by omega) hroom55; obtain ⟨A55, hA55⟩ : ∃ A1, A1 = (if co13 = ((ji45) : Int).toNat then (some ad129) else ((some ad129) : Option Addr).map (·.add (((ji45) : Int).toNat * 1))) := ⟨_, rfl⟩; obtain ⟨c55, hc55⟩ : ∃ c1, c1 = co13 - ((ji45) : Int).toNat := ⟨_, rfl⟩; have hy55 : y148.length = x4_2.length - ((ji45) : Int).toNat := (by rw [Ny148.out, List.length_drop] <;> omega); rw [show (x4_2).drop ((ji45) : Int).toNat = y148 from Ny148.out.symm] at hr55; replace hr55 : Kd.C (Kd.int .i64) _ A55 y148.length y148 := (by rw [hA55]; exact hr55); rw [← hy55, ← hA55, ← hc55] at hcut55; have HR151 := Ak hr55; have HC151 := Ak (show y148.length ≤ c55 from by rw [hy55, hc55]; exact Nat.sub_le_sub_right hroom55 _); clear hr55 hC55 hroom55 hi055 hsz55 hc55; have KY55 := Ak hy55; have KA55 := Ak hA55; clear hy55 hA55; have KL55 := Ak (show ((ji45) : Int).toNat ≤ x4_2.length from by omega); replace q55 := eq_true q55; refine start_ (n := 11) (S := fun w' => True) (ds := []) #[F,F,F,F,F,F,F,F,F,F,F] (by kernel_rfl) rfl rfl trivial (fun hHeld => ?_); refine with_tabW spec_Triangulate.tab28 spec_Triangulate.bits28 (fun HT_ HW_ => ?_); generalize w51.drew = w53 at HO_4 HO_7 HO137 HB HR144 HR151 hHeld ⊢; refine pure_ (i := 1) (N := some 89) (v := ?_) (a' := ?_) #[F,T,F,F,F,F,F,F,F,F,F] rfl rfl (any_of HT_.out (by kernel_rfl)) (fun _ _ _ h => h) (Or.inl ⟨by rfl, ?_⟩) ?_ ?_; rotate_left
                            ·intro w'; go_simp; with_reducible rfl
                            rotate_left
                            ·simp only [Act.put, sA, sB, sC, sD, sE]; rfl
                            refine pure_ (i := 2) (N := some 90) (v := ?_) (a' := ?_) #[F,T,T,F,F,F,F,F,F,F,F] rfl rfl (any_of HT_.out (by kernel_rfl)) (fun _ _ _ h => h) (Or.inl ⟨by rfl, ?_⟩) ?_ ?_; rotate_left
                            ·intro w'; go_simp; with_reducible rfl
                            rotate_left
                            ·simp only [Act.put, sA, sB, sC, sD, sE]; rfl
                            refine pure_ (i := 3) (N := some 91) (v := ?_) (a' := ?_) #[F,T,T,T,F,F,F,F,F,F,F] rfl rfl (any_of HT_.out (by kernel_rfl)) (fun _ _ _ h => h) (Or.inl ⟨by rfl, ?_⟩) ?_ ?_; rotate_left
                            ·intro w'; go_simp; with_reducible rfl
                            rotate_left
                            ·simp only [Act.put, sA, sB, sC, sD, sE]; rfl
                            refine pure_ (i := 5) (N := some 93) (v := ?_) (a' := ?_) #[F,T,T,T,F,T,F,F,F,F,F] rfl rfl (any_of HT_.out (by kernel_rfl)) (fun _ _ _ h => h) (Or.inl ⟨by rfl, ?_⟩) ?_ ?_; rotate_left
                            ·intro w'; go_simp; with_reducible rfl
                            rotate_left
                            ·simp only [Act.put, sA, sB, sC, sD, sE]; rfl
                            refine pure_ (i := 6) (N := some 94) (v := ?_) (a' := ?_) #[F,T,T,T,F,T,T,F,F,F,F] rfl rfl (any_of HT_.out (by kernel_rfl)) (fun _ _ _ h => h) (Or.inl ⟨by rfl, ?_⟩) ?_ ?_; rotate_left
                            ·intro w'; go_simp; with_reducible rfl
                            rotate_left
                            ·simp only [Act.put, sA, sB, sC, sD, sE]; rfl
                            refine pure_ (i := 7) (N := some 95) (v := ?_) (a' := ?_) #[F,T,T,T,F,T,T,T,F,F,F] rfl rfl (any_of HT_.out (by kernel_rfl)) (fun _ _ _ h => h) (Or.inl ⟨by rfl, ?_⟩) ?_ ?_; rotate_left
                            ·intro w'; go_simp; with_reducible rfl
                            rotate_left
                            ·simp only [Act.put, sA, sB, sC, sD, sE]; rfl
                            refine pure_ (i := 8) (N := some 96) (v := ?_) (a' := ?_) #[F,T,T,T,F,T,T,T,T,F,F] rfl rfl (any_of HT_.out (by kernel_rfl)) (fun _ _ _ h => h) (Or.inl ⟨by rfl, ?_⟩) ?_ ?_; rotate_left
                            ·intro w'; go_simp; with_reducible rfl
                            rotate_left
                            ·simp only [Act.put, sA, sB, sC, sD, sE]; rfl
                            refine one_ (i := 0) (N := some 88) #[T,T,T,T,F,T,T,T,T,F,F] rfl rfl (one_of HT_.out (by kernel_rfl)) (by decide) (fun K hK => ?_); refine Kd.R_lit_step (Kd.int .i64) _ 3 ?hg (N := 88) ?hd (xs := ([] : List Int)) (inner := []) (ok := fun _ => True) (okp := fun _ => True) ?hr ?hp (fun _ hk => hk) trivial (Below.refl _ _) (Nat.le_refl _) (by simp) ?_; (case hd | hg => rfl); (case hr => first | (go_simp; done) | (go_simp; rfl)); (case hp => exact (Reps.none _ _)); intro v139 w56 ho57 hb hg_ hnew_; clear hg_ hnew_
                            (first | rw [← Ny138.out] at ho57 | (simp only [Int.reduceToNat] at ho57; rw [← Ny138.out] at ho57))
                            have n0_ := Ak (Kd.R_elder' (by (with_reducible repeat (first | apply Kd.R_alloc | apply Kd.R_drewN | apply Kd.R_drew)); exact HO_4.out) (Kd.R_base ho57) hb); have n1_ := Ak (Kd.R_below (by (with_reducible repeat (first | apply Kd.R_alloc | apply Kd.R_drewN | apply Kd.R_drew)); exact HO_7.out) hb); have n2_ := Ak (Kd.S_elder' (by (with_reducible repeat (first | apply Kd.S_alloc | apply Kd.S_drewN | apply Kd.S_drew)); exact HO137.out) (Kd.R_base ho57) hb); have n3_ := Ak (Kd.R_lower (Kd.R_new' ho57 (Kd.R_lt (by (with_reducible repeat (first | apply Kd.R_alloc | apply Kd.R_drewN | apply Kd.R_drew)); exact HO_4.out))) (below_size (by repeat (first | exact HB.out | apply bA | apply bD | apply bE)))); have n4_ := Ak (Kd.C_below (by repeat (first | (with_reducible exact HR144.out) | (with_reducible refine Kd.C_alloc ?_ _) | (with_reducible refine Kd.C_drewN ?_ _) | (with_reducible refine Kd.C_drew ?_) | exact HR144.out)) hb); have n5_ := Ak (Kd.C_below (by repeat (first | (with_reducible exact HR151.out) | (with_reducible refine Kd.C_alloc ?_ _) | (with_reducible refine Kd.C_drewN ?_ _) | (with_reducible refine Kd.C_drew ?_) | exact HR151.out)) hb); have n6_ := Ak (below_step (by repeat (first | exact HB.out | apply bA | apply bD | apply bE)) hb); clear HO_4 HO_7 HO137 HR144 HR151 HB; have HO_4 := n0_; have HO_7 := n1_; have HO137 := n2_; have HO140 := n3_; have HR144 := n4_; have HR151 := n5_; have HB := n6_; clear n0_ n1_ n2_ n3_ n4_ n5_ n6_ hb ho57; refine hK.out _ _ trivial (fun hHeld => ?_); clear hK K; refine norm_ (a' := ?_) ?_ ?_; rotate_left
                            ·show Act.put _ (some 88) _ = _; simp only [Act.put, sA, sB, sC, sD, sE]; rfl
                            refine one_ (i := 4) (N := some 92) #[T,T,T,T,T,T,T,T,T,F,F] rfl rfl (one_of HT_.out (by kernel_rfl)) (by decide) (fun K hK => ?_); refine Kd.R_append_rows_step (Kd.int .i64) (w0 := w) w.heap.size (by rfl) (.tmp 88) (.tmp 91) 78 3 (.int .i64 0) 8 rfl Try.underlying78 info3 rfl (by decide) (by omega) v139 y138 y141 _ _ _ (fun k_ => some k_ ≠ (.slice (some ad129) x4_2.length co13 : Value).ownBlock) (fun _ => False) rfl rfl ?aO ?aR (fun _ _ h => h) (fun _ h => h.elim) ?aF ?aB ?aS ?aL ?_
                            (case aR => repeat (first | exact (by repeat (first | (with_reducible exact HR144.out) | (with_reducible refine Kd.C_alloc ?_ _) | (with_reducible refine Kd.C_drewN ?_ _) | (with_reducible refine Kd.C_drew ?_) | exact HR144.out)) | (with_reducible refine Kd.C_alloc ?_ _) | (with_reducible refine Kd.C_drewN ?_ _) | (with_reducible refine Kd.C_drew ?_)))
                            (case aB => exact (by repeat (first | exact HB.out | apply bA | apply bD | apply bE)))
                            (case aF => exact (fun k_ hk => Kd.fresh' (Kd.R_lt (by (with_reducible repeat (first | apply Kd.R_alloc | apply Kd.R_drewN | apply Kd.R_drew)); exact HO_4.out)) k_ hk))
                            (case aO => exact (by (with_reducible repeat (first | apply Kd.R_alloc | apply Kd.R_drewN | apply Kd.R_drew)); exact Kd.R_mono HO140.out (fun _ hk => hk.2)))
                            (case aS => exact (below_size (by repeat (first | exact HB.out | apply bA | apply bD | apply bE))))
                            (case aL => have := LMc44.out; omega)
                            intro v146 w58 ho hb hg hat; rw [← Ny145.out] at ho; have n0_ := Ak (Kd.R_after (ok := (fun _ => True)) (by (with_reducible repeat (first | apply Kd.R_alloc | apply Kd.R_drewN | apply Kd.R_drew)); exact Kd.R_mono HO_4.out (fun _ hk => ⟨trivial, hk.2⟩)) hg hat); have n1_ := Ak (Kd.R_over' (by (with_reducible repeat (first | apply Kd.R_alloc | apply Kd.R_drewN | apply Kd.R_drew)); exact HO_7.out) (Kd.R_typed (by (with_reducible repeat (first | apply Kd.R_alloc | apply Kd.R_drewN | apply Kd.R_drew)); exact HO140.out)) (by decide) hg); have n2_ := Ak (Kd.S_after (ok := (fun k_ => some k_ ≠ (.slice (some ad129) x4_2.length co13 : Value).ownBlock)) (by (with_reducible repeat (first | apply Kd.S_alloc | apply Kd.S_drewN | apply Kd.S_drew)); exact HO137.out) hg hat); have n3_ := Ak (hb); have n4_ := Ak ((show Kd.C (Kd.int .i64) w58 (some ad129) y141.length y141 from by rw [Ny141.out]; exact Kd.C_take (m := (x10_4 : Int).toNat) ((Kd.R_reads' (Kd.R_after (ok := (fun _ => True)) (by (with_reducible repeat (first | apply Kd.R_alloc | apply Kd.R_drewN | apply Kd.R_drew)); exact Kd.R_mono HO_4.out (fun _ hk => ⟨trivial, hk.2⟩)) hg hat)).2.2) KL54.out)); have n5_ := Ak ((show Kd.C (Kd.int .i64) w58 A55 y148.length y148 from by rw [Ny148.out, KA55.out]; exact Kd.C_drop (m := ((ji45) : Int).toNat) (c := co13) ((Kd.R_reads' (Kd.R_after (ok := (fun _ => True)) (by (with_reducible repeat (first | apply Kd.R_alloc | apply Kd.R_drewN | apply Kd.R_drew)); exact Kd.R_mono HO_4.out (fun _ hk => ⟨trivial, hk.2⟩)) hg hat)).2.2) KL55.out ((Kd.R_reads' (Kd.R_after (ok := (fun _ => True)) (by (with_reducible repeat (first | apply Kd.R_alloc | apply Kd.R_drewN | apply Kd.R_drew)); exact Kd.R_mono HO_4.out (fun _ hk => ⟨trivial, hk.2⟩)) hg hat)).2.1))); have n6_ := Ak (ho); clear HO_4 HO_7 HO137 HB HR144 HR151 HO140; have HO_4 := n0_; have HO_7 := n1_; have HO137 := n2_; have HB := n3_; have HR144 := n4_; have HR151 := n5_; have HO147 := n6_; clear n0_ n1_ n2_ n3_ n4_ n5_ n6_ ho hb hg hat; refine hK.out _ _ trivial (fun hHeld => ?_); clear hK K; refine norm_ (a' := ?_) ?_ ?_; rotate_left
                            ·show Act.put _ (some 92) _ = _; simp only [Act.put, sA, sB, sC, sD, sE]; rfl
                            refine one_ (i := 9) (N := some 97) #[T,T,T,T,T,T,T,T,T,T,F] rfl rfl (one_of HT_.out (by kernel_rfl)) (by decide) (fun K hK => ?_); refine Kd.R_append_rows_step (Kd.int .i64) (w0 := w) w.heap.size (by rfl) (.tmp 92) (.tmp 96) 78 3 (.int .i64 0) 8 rfl Try.underlying78 info3 rfl (by decide) (by omega) v146 y145 y148 _ _ _ (fun k_ => some k_ ≠ (.slice (some ad129) x4_2.length co13 : Value).ownBlock) (fun _ => False) rfl rfl ?aO ?aR (fun _ _ h => h) (fun _ h => h.elim) ?aF ?aB ?aS ?aL ?_
                            (case aR => repeat (first | exact (by repeat (first | (with_reducible exact HR151.out) | (with_reducible refine Kd.C_alloc ?_ _) | (with_reducible refine Kd.C_drewN ?_ _) | (with_reducible refine Kd.C_drew ?_) | exact HR151.out)) | (with_reducible refine Kd.C_alloc ?_ _) | (with_reducible refine Kd.C_drewN ?_ _) | (with_reducible refine Kd.C_drew ?_)))
                            (case aB => exact (by repeat (first | exact HB.out | apply bA | apply bD | apply bE)))
                            (case aF => exact (fun k_ hk => Kd.fresh' (Kd.R_lt (by (with_reducible repeat (first | apply Kd.R_alloc | apply Kd.R_drewN | apply Kd.R_drew)); exact HO_4.out)) k_ hk))
                            (case aO => exact (by (with_reducible repeat (first | apply Kd.R_alloc | apply Kd.R_drewN | apply Kd.R_drew)); exact HO147.out))
                            (case aS => exact (below_size (by repeat (first | exact HB.out | apply bA | apply bD | apply bE))))
                            (case aL => have := LMc48.out; omega)
                            intro v153 w59 ho hb hg hat; rw [← Ny152.out] at ho; have n0_ := Ak (Kd.R_after (ok := (fun _ => True)) (by (with_reducible repeat (first | apply Kd.R_alloc | apply Kd.R_drewN | apply Kd.R_drew)); exact HO_4.out) hg hat); have n1_ := Ak (Kd.R_over' (by (with_reducible repeat (first | apply Kd.R_alloc | apply Kd.R_drewN | apply Kd.R_drew)); exact HO_7.out) (Kd.R_typed (by (with_reducible repeat (first | apply Kd.R_alloc | apply Kd.R_drewN | apply Kd.R_drew)); exact HO147.out)) (by decide) hg); have n2_ := Ak (Kd.S_after (ok := (fun k_ => some k_ ≠ (.slice (some ad129) x4_2.length co13 : Value).ownBlock)) (by (with_reducible repeat (first | apply Kd.S_alloc | apply Kd.S_drewN | apply Kd.S_drew)); exact HO137.out) hg hat); have n3_ := Ak (hb); have n4_ := Ak ((show Kd.C (Kd.int .i64) w59 (some ad129) y141.length y141 from by rw [Ny141.out]; exact Kd.C_take (m := (x10_4 : Int).toNat) ((Kd.R_reads' (Kd.R_after (ok := (fun _ => True)) (by (with_reducible repeat (first | apply Kd.R_alloc | apply Kd.R_drewN | apply Kd.R_drew)); exact HO_4.out) hg hat)).2.2) KL54.out)); have n5_ := Ak ((show Kd.C (Kd.int .i64) w59 A55 y148.length y148 from by rw [Ny148.out, KA55.out]; exact Kd.C_drop (m := ((ji45) : Int).toNat) (c := co13) ((Kd.R_reads' (Kd.R_after (ok := (fun _ => True)) (by (with_reducible repeat (first | apply Kd.R_alloc | apply Kd.R_drewN | apply Kd.R_drew)); exact HO_4.out) hg hat)).2.2) KL55.out ((Kd.R_reads' (Kd.R_after (ok := (fun _ => True)) (by (with_reducible repeat (first | apply Kd.R_alloc | apply Kd.R_drewN | apply Kd.R_drew)); exact HO_4.out) hg hat)).2.1))); have n6_ := Ak (ho); clear HO_4 HO_7 HO137 HB HR144 HR151 HO147; have HO_4 := n0_; have HO_7 := n1_; have HO137 := n2_; have HB := n3_; have HR144 := n4_; have HR151 := n5_; have HO154 := n6_; clear n0_ n1_ n2_ n3_ n4_ n5_ n6_ ho hb hg hat; refine hK.out _ _ trivial (fun hHeld => ?_); clear hK K; refine norm_ (a' := ?_) ?_ ?_; rotate_left
                            ·show Act.put _ (some 97) _ = _; simp only [Act.put, sA, sB, sC, sD, sE]; rfl
                            refine pure_ (i := 10) (N := some 4) (v := ?_) (a' := ?_) #[T,T,T,T,T,T,T,T,T,T,T] rfl rfl (any_of HT_.out (by kernel_rfl)) (fun _ _ _ h => h) (Or.inl ⟨by rfl, ?_⟩) ?_ ?_; rotate_left
                            ·intro w'; go_simp; with_reducible rfl
                            rotate_left
                            ·simp only [Act.put, sA, sB, sC, sD, sE]; rfl
                            refine done_ (done_of HT_.out (by kernel_rfl)) ?_
                            try go_wp2
                            go_roundg k4
                            case measure => have := HK1.out; have := HK2.out; have := HK3.out; have := HK4.out; omega
                            case rel => exact ⟨(y152), (y135), H', ⟨by have := HK1.out; have := HK2.out; have := HK3.out; have := HK4.out; omega⟩, ⟨by (with_reducible repeat (first | apply Kd.R_alloc | apply Kd.R_drewN | apply Kd.R_drew)); exact Kd.R_mono HO154.out (fun _ hk => trivial)⟩, ⟨by (with_reducible repeat (first | apply Kd.S_alloc | apply Kd.S_drewN | apply Kd.S_drew)); exact Kd.S_mono HO137.out (fun _ hk => hk.2)⟩, ⟨by repeat (first | (with_reducible first | exact HB.out | apply bA | apply bD | apply bE) | exact HB.out)⟩⟩
                           ·rw [if_neg c48] at H; exact absurd H (by simp)
                          ·rw [if_neg c47] at H; exact absurd H (by simp)
                         ·rw [if_neg c46] at H; exact absurd H (by simp)
                        ·rw [if_neg c44] at H; exact absurd H (by simp)
                       ·rw [if_neg c43] at H; exact absurd H (by simp)
                      ·rw [if_neg c41] at H; exact absurd H (by simp)
                     ·rw [if_neg c39] at H; exact absurd H (by simp)
                    ·rw [if_neg c38] at H; exact absurd H (by simp)
                   ·rw [if_neg c36] at H; exact absurd H (by simp)
                  ·rw [if_neg c35] at H; exact absurd H (by simp)
                 ·rw [if_neg c34] at H; exact absurd H (by simp)
                ·rw [if_neg c33] at H; exact absurd H (by simp)
       ·rw [if_neg c12] at H; have c12b0 : decide (3 < (x4_2.length : Int)) = false := decide_eq_false c12; have c12b1 : decide (3 < x4_2.length) = false := decide_eq_false (by omega); clear c12
        by_cases c60 : 0 < (x4_2.length : Int)
        ·rw [if_pos c60] at H; have c60b0 : decide (0 < (x4_2.length : Int)) = true := decide_eq_true c60; have c60b1 : decide (0 < x4_2.length) = true := decide_eq_true (by omega); clear c60
         by_cases c61 : 1 < (x4_2.length : Int)
         ·rw [if_pos c61] at H; have c61b0 : decide (1 < (x4_2.length : Int)) = true := decide_eq_true c61; have c61b1 : decide (1 < x4_2.length) = true := decide_eq_true (by omega); clear c61
          by_cases c62 : 2 < (x4_2.length : Int)
          ·rw [if_pos c62] at H; have c62b0 : decide (2 < (x4_2.length : Int)) = true := decide_eq_true c62; have c62b1 : decide (2 < x4_2.length) = true := decide_eq_true (by omega); clear c62; replace H := Option.bind_eq_some_iff.mp H; obtain ⟨t114, A630, H⟩ := H; replace H : (if x6_2.length < 5864062014805 then (some ((x6_2 ++ [t114]), true)) else (none)) = some (r1, r2) := H; have A63 := Ak A630; clear A630
           by_cases c64 : x6_2.length < 5864062014805
           ·rw [if_pos c64] at H; have LMc64 := Ak c64; clear c64; obtain ⟨y117, hy117⟩ : ∃ y_ : List (List Int), y_ = (x6_2 ++ [t114]) := ⟨_, rfl⟩; replace H : (some (y117, true)) = some (r1, r2) := by first | (rw [hy117]; exact H) | exact H
            have Ny117 := Ak hy117; clear hy117; simp only [Option.some.injEq, Prod.mk.injEq] at H; obtain ⟨rfl, rfl⟩ := H; obtain ⟨Ao65, co65, eo65⟩ := Kd.R_slice HO_4.out; subst eo65
            try go_wp2
            have n0_ := Ak (Kd.R_drew HO_4.out); have n1_ := Ak (Kd.S_drew HO_6.out); have n2_ := Ak (below_drew1 HB.out); clear HO_4 HO_6 HB; have HO_4 := n0_; have HO_6 := n1_; have HB := n2_; clear n0_ n1_ n2_; have p111 : 0 ≤ (0 : Int) := (by omega); have q111 : 0 < (x4_2.length : Int) := of_decide_eq_true (by first | (with_reducible assumption) | assumption); obtain ⟨ad111, e111, hx111_0⟩ := Kd.at_int (Kd.R_reads' HO_4.out).2.2 0 p111 q111; cases e111; have qi111 : (0 < x4_2.length) = True := eq_true (by omega); (try rw [show ((0 : Int)).toNat = 0 from rfl] at hx111_0); (try rw [Addr.add_zero'] at hx111_0); replace p111 := eq_true p111; replace q111 := eq_true q111; have p112 : 0 ≤ (1 : Int) := (by omega); have q112 : 1 < (x4_2.length : Int) := of_decide_eq_true (by first | (with_reducible assumption) | assumption); obtain ⟨ad112, e112, hx112_0⟩ := Kd.at_int (Kd.R_reads' HO_4.out).2.2 1 p112 q112; obtain rfl : ad111 = ad112 := (by injection e112); (try simp only [show (1 : Int).toNat = 1 from rfl, Nat.reduceMul, Nat.reduceEqDiff, Go.Addr.add, ↓reduceIte] at hx112_0); have qi112 : (1 < x4_2.length) = True := eq_true (by omega); (try rw [show ((1 : Int)).toNat = 1 from rfl] at hx112_0); replace p112 := eq_true p112; replace q112 := eq_true q112; have p113 : 0 ≤ (2 : Int) := (by omega); have q113 : 2 < (x4_2.length : Int) := of_decide_eq_true (by first | (with_reducible assumption) | assumption); obtain ⟨ad113, e113, hx113_0⟩ := Kd.at_int (Kd.R_reads' HO_4.out).2.2 2 p113 q113; obtain rfl : ad111 = ad113 := (by injection e113); (try simp only [show (2 : Int).toNat = 2 from rfl, Nat.reduceMul, Nat.reduceEqDiff, Go.Addr.add, ↓reduceIte] at hx113_0); have qi113 : (2 < x4_2.length) = True := eq_true (by omega); (try rw [show ((2 : Int)).toNat = 2 from rfl] at hx113_0); replace p113 := eq_true p113; replace q113 := eq_true q113; refine start_ (n := 15) (S := fun w' => w'.cell? ad111 = some (.int .i64 (rd x4_2 0)) ∧ w'.cell? ⟨ad111.block, ad111.off + 1, none⟩ = some (.int .i64 (rd x4_2 1)) ∧ w'.cell? ⟨ad111.block, ad111.off + 2, none⟩ = some (.int .i64 (rd x4_2 2))) (ds := [11, 12]) #[F,F,F,F,F,F,F,F,F,F,F,F,F,F,F] (by kernel_rfl) rfl rfl ⟨hx111_0, hx112_0, hx113_0⟩ (fun hHeld => ?_); refine with_tabW spec_Triangulate.tab29 spec_Triangulate.bits29 (fun HT_ HW_ => ?_); generalize wr.drew = w66 at HO_4 HO_6 HB hx111_0 hx112_0 hx113_0 hHeld ⊢; refine pure_ (i := 0) (N := some 98) (v := ?_) (a' := ?_) #[T,F,F,F,F,F,F,F,F,F,F,F,F,F,F] rfl rfl (any_of HT_.out (by kernel_rfl)) (fun _ _ _ h => h) (Or.inl ⟨by rfl, ?_⟩) ?_ ?_; rotate_left
            ·intro w'; go_simp; with_reducible rfl
            rotate_left
            ·simp only [Act.put, sA, sB, sC, sD, sE]; rfl
            refine pure_ (i := 1) (N := some 99) (v := ?_) (a' := ?_) #[T,T,F,F,F,F,F,F,F,F,F,F,F,F,F] rfl rfl (any_of HT_.out (by kernel_rfl)) (fun _ _ _ h => h) (Or.inl ⟨by rfl, ?_⟩) ?_ ?_; rotate_left
            ·intro w'; go_simp; with_reducible rfl
            rotate_left
            ·simp only [Act.put, sA, sB, sC, sD, sE]; rfl
            refine pure_ (i := 2) (N := some 100) (v := ?_) (a' := ?_) #[T,T,T,F,F,F,F,F,F,F,F,F,F,F,F] rfl rfl (any_of HT_.out (by kernel_rfl)) (fun _ _ _ h => h) (Or.inl ⟨by rfl, ?_⟩) ?_ ?_; rotate_left
            ·intro w'; go_simp; with_reducible rfl
            rotate_left
            ·simp only [Act.put, sA, sB, sC, sD, sE]; rfl
            refine pure_ (i := 4) (N := some 102) (v := ?_) (a' := ?_) #[T,T,T,F,T,F,F,F,F,F,F,F,F,F,F] rfl rfl (any_of HT_.out (by kernel_rfl)) (fun _ _ _ h => h) (Or.inl ⟨by rfl, ?_⟩) ?_ ?_; rotate_left
            ·intro w'; go_simp; with_reducible rfl
            rotate_left
            ·simp only [Act.put, sA, sB, sC, sD, sE]; rfl
            refine pure_ (i := 5) (N := some 103) (v := ?_) (a' := ?_) #[T,T,T,F,T,T,F,F,F,F,F,F,F,F,F] rfl rfl (any_of HT_.out (by kernel_rfl)) (fun _ _ _ h => h) (Or.inl ⟨by rfl, ?_⟩) ?_ ?_; rotate_left
            ·intro w'; go_simp; with_reducible rfl
            rotate_left
            ·simp only [Act.put, sA, sB, sC, sD, sE]; rfl
            refine pure_ (i := 7) (N := some 105) (v := ?_) (a' := ?_) #[T,T,T,F,T,T,F,T,F,F,F,F,F,F,F] rfl rfl (any_of HT_.out (by kernel_rfl)) (fun _ _ _ h => h) (Or.inl ⟨by rfl, ?_⟩) ?_ ?_; rotate_left
            ·intro w'; go_simp; with_reducible rfl
            rotate_left
            ·simp only [Act.put, sA, sB, sC, sD, sE]; rfl
            refine pure_ (i := 8) (N := some 106) (v := ?_) (a' := ?_) #[T,T,T,F,T,T,F,T,T,F,F,F,F,F,F] rfl rfl (any_of HT_.out (by kernel_rfl)) (fun _ _ _ h => h) (Or.inl ⟨by rfl, ?_⟩) ?_ ?_; rotate_left
            ·intro w'; go_simp; with_reducible rfl
            rotate_left
            ·simp only [Act.put, sA, sB, sC, sD, sE]; rfl
            refine take_ (i := 3) (N := some 101) (v := ?_) (a' := ?_) #[T,T,T,T,T,T,F,T,T,F,F,F,F,F,F] rfl rfl (take_ofW HT_.out HW_.out (by kernel_rfl)) (fun _ _ _ h => h) (Or.inl ⟨by rfl, ?_⟩) hHeld ?_ ?_; rotate_left
            ·rintro w' ⟨s0, s1, s2⟩; go_simp; with_reducible rfl
            rotate_left
            ·simp only [Act.put, sA, sB, sC, sD, sE]; rfl
            refine take_ (i := 6) (N := some 104) (v := ?_) (a' := ?_) #[T,T,T,T,T,T,T,T,T,F,F,F,F,F,F] rfl rfl (take_ofW HT_.out HW_.out (by kernel_rfl)) (fun _ _ _ h => h) (Or.inl ⟨by rfl, ?_⟩) hHeld ?_ ?_; rotate_left
            ·rintro w' ⟨s0, s1, s2⟩; go_simp; with_reducible rfl
            rotate_left
            ·simp only [Act.put, sA, sB, sC, sD, sE]; rfl
            refine take_ (i := 9) (N := some 107) (v := ?_) (a' := ?_) #[T,T,T,T,T,T,T,T,T,T,F,F,F,F,F] rfl rfl (take_ofW HT_.out HW_.out (by kernel_rfl)) (fun _ _ _ h => h) (Or.inl ⟨by rfl, ?_⟩) hHeld ?_ ?_; rotate_left
            ·rintro w' ⟨s0, s1, s2⟩; go_simp; with_reducible rfl
            rotate_left
            ·simp only [Act.put, sA, sB, sC, sD, sE]; rfl
            refine one_ (i := 10) (N := some 108) #[T,T,T,T,T,T,T,T,T,T,T,F,F,F,F] rfl rfl (one_of HT_.out (by kernel_rfl)) (by decide) (fun K hK => ?_); refine goes_ Try.func88 (by kernel_rfl) rfl #[.int .i64 (rd x4_2 0), .int .i64 (rd x4_2 1), .int .i64 (rd x4_2 2)] (by rfl) rfl rfl (by (try simp only [List.map_toArray, List.map_cons, List.map_nil]); first | done | rfl | (simp only [List.length_drop, List.length_take]; rfl)) ?_
            with_reducible refine (spec_l05Three.calls (rd x4_2 0) (rd x4_2 1) (rd x4_2 2) t114 _ A63.out).mono ?_
            rintro e w67 ⟨v115, rfl, ho0, hb⟩; have HS0_ := (hb.cell (World.block_lt_of_cell? _ _ (hHeld.1))).trans (hHeld.1); have HS1_ := (hb.cell (World.block_lt_of_cell? _ _ (hHeld.2.1))).trans (hHeld.2.1); have HS2_ := (hb.cell (World.block_lt_of_cell? _ _ (hHeld.2.2))).trans (hHeld.2.2); refine ⟨_, rfl, ?_⟩; have n0_ := Ak (Kd.R_elder' (by (with_reducible repeat (first | apply Kd.R_alloc | apply Kd.R_drewN | apply Kd.R_drew)); exact HO_4.out) (Kd.R_base ho0) hb); have n1_ := Ak (Kd.S_elder' (by (with_reducible repeat (first | apply Kd.S_alloc | apply Kd.S_drewN | apply Kd.S_drew)); exact HO_6.out) (Kd.R_base ho0) hb); have n2_ := Ak (Kd.R_lower (Kd.R_new' ho0 (Kd.R_lt (by (with_reducible repeat (first | apply Kd.R_alloc | apply Kd.R_drewN | apply Kd.R_drew)); exact HO_4.out))) (below_size (by repeat (first | exact HB.out | apply bA | apply bD | apply bE)))); have n3_ := Ak (below_step (by repeat (first | exact HB.out | apply bA | apply bD | apply bE)) hb); clear HO_4 HO_6 HB; have HO_4 := n0_; have HO_6 := n1_; have HO116 := n2_; have HB := n3_; clear n0_ n1_ n2_ n3_; (try clear hb); (try clear hb2); (try clear hk); (try clear hi); (try clear ho0); obtain ⟨Ao69, co69, eo69⟩ := Kd.R_slice HO116.out
            (first | subst eo69 | (injection eo69 with f1_ f2_ f3_; have f4_ := f1_.symm; have f5_ := f3_.symm; clear f1_ f2_ f3_; subst f4_; subst f5_))
            refine hK.out _ _ ⟨HS0_, HS1_, HS2_⟩ (fun hHeld => ?_); clear hK K; refine norm_ (a' := ?_) ?_ ?_; rotate_left
            ·show Act.put _ (some 108) _ = _; simp only [Act.put, sA, sB, sC, sD, sE]; rfl
            refine last_ (i := 11) (N := some 109) #[T,T,T,T,T,T,T,T,T,T,T,T,F,F,F] rfl rfl (one_of HT_.out (by kernel_rfl)) (by decide) (fun K hK => ?_); refine value_ (w1 := ?_) (v := ?_) (by rfl) rfl ?_ ?_; rotate_left 2
            ·go_simp
             constructor
             ·rfl
             ·rfl
            refine hK.out _ _ ?_; clear hK K; refine norm_ (a' := ?_) ?_ ?_; rotate_left
            ·show Act.put _ (some 109) _ = _; simp only [Act.put, sA, sB, sC, sD, sE]; rfl
            refine last_ (i := 12) (N := some 110) #[T,T,T,T,T,T,T,T,T,T,T,T,T,F,F] rfl rfl (one_of HT_.out (by kernel_rfl)) (by decide) (fun K hK => ?_); refine Kd.S_append_step (Kd.slice 3 (Kd.int .i64)) (w0 := w) w.heap.size (by rfl) (.tmp 98) (.tmp 109) 49 78 (.slice none 0 0) 24 rfl Try.underlying49 info78 rfl (by decide) (by omega) u6 x6_2 t114 [.slice Ao69 t114.length co69] (fun k_ => some k_ ≠ (.slice (some ad111) x4_2.length co65 : Value).ownBlock) (fun k_ => some k_ = (.slice Ao69 t114.length co69 : Value).ownBlock) rfl rfl ?aP (fun k_ hk_ => ((Kd.R_mono (ok' := fun k_ => ((fun k_ => some k_ ≠ (.slice (some ad111) x4_2.length co65 : Value).ownBlock)) k_ ∧ some k_ ≠ (u6 : Value).ownBlock) (Kd.R_apart' (HO116.out) (Kd.S_typed HO_6.out) (by decide)) (fun k_ hk => ⟨hk.1.2, hk.2⟩))).1 k_ hk_.symm) ?aF ?aO ?aB ?aS ?aL ?_
            (case aP => exact Kd.M_row (Kd.R_mono (Kd.R_tight rfl (Kd.R_mono (ok' := fun k_ => ((fun k_ => some k_ ≠ (.slice (some ad111) x4_2.length co65 : Value).ownBlock)) k_ ∧ some k_ ≠ (u6 : Value).ownBlock) (Kd.R_apart' (HO116.out) (Kd.S_typed HO_6.out) (by decide)) (fun k_ hk => ⟨hk.1.2, hk.2⟩))) (fun _ h_ => h_)))
            (case aB => exact (by repeat (first | exact HB.out | apply bA | apply bD | apply bE)))
            (case aF => exact (fun k_ hk => Kd.fresh' (Kd.R_lt (by (with_reducible repeat (first | apply Kd.R_alloc | apply Kd.R_drewN | apply Kd.R_drew)); exact HO_4.out)) k_ hk))
            (case aO => exact (by (with_reducible repeat (first | apply Kd.S_alloc | apply Kd.S_drewN | apply Kd.S_drew)); exact Kd.S_mono HO_6.out (fun k_ hk => ⟨hk.1, fun e_ => hk.2 e_⟩)))
            (case aS => exact (below_size (by repeat (first | exact HB.out | apply bA | apply bD | apply bE))))
            (case aL => have := LMc64.out; omega)
            intro v118 w68 ho hb hg hat; rw [← Ny117.out] at ho; have n0_ := Ak (Kd.R_over' (by (with_reducible repeat (first | apply Kd.R_alloc | apply Kd.R_drewN | apply Kd.R_drew)); exact HO_4.out) (Kd.S_typed (by (with_reducible repeat (first | apply Kd.S_alloc | apply Kd.S_drewN | apply Kd.S_drew)); exact HO_6.out)) (by decide) hg); have n1_ := Ak (hb); have n2_ := Ak (ho); clear HO_4 HB HO_6 HO116; have HO_4 := n0_; have HB := n1_; have HO119 := n2_; clear n0_ n1_ n2_ ho hb hg hat; refine hK.out _ _ ?_; clear hK K; refine norm_ (a' := ?_) ?_ ?_; rotate_left
            ·show Act.put _ (some 110) _ = _; simp only [Act.put, sA, sB, sC, sD, sE]; rfl
            refine pure_ (i := 13) (N := some 2) (v := ?_) (a' := ?_) #[T,T,T,T,T,T,T,T,T,T,T,T,T,T,F] rfl rfl (any_of HT_.out (by kernel_rfl)) (fun _ _ _ h => h) (Or.inl ⟨by rfl, ?_⟩) ?_ ?_; rotate_left
            ·intro w'; go_simp; with_reducible rfl
            rotate_left
            ·simp only [Act.put, sA, sB, sC, sD, sE]; rfl
            refine pure_ (i := 14) (N := some 3) (v := ?_) (a' := ?_) #[T,T,T,T,T,T,T,T,T,T,T,T,T,T,T] rfl rfl (any_of HT_.out (by kernel_rfl)) (fun _ _ _ h => h) (Or.inl ⟨by rfl, ?_⟩) ?_ ?_; rotate_left
            ·intro w'; go_simp; with_reducible rfl
            rotate_left
            ·simp only [Act.put, sA, sB, sC, sD, sE]; rfl
            refine done_ (done_of HT_.out (by kernel_rfl)) ?_
            try go_wp2
            go_ret2
            exact ⟨_, by first | rfl | (simp [*, errW_none, errW_some] <;> rfl), by (with_reducible repeat (first | apply Kd.S_alloc | apply Kd.S_drewN | apply Kd.S_drew)); exact Kd.S_mono HO119.out (fun _ hk => trivial), by repeat (first | (with_reducible first | exact HB.out | apply bA | apply bD | apply bE) | exact HB.out)⟩
           ·rw [if_neg c64] at H; exact absurd H (by simp)
          ·rw [if_neg c62] at H; exact absurd H (by simp)
         ·rw [if_neg c61] at H; exact absurd H (by simp)
        ·rw [if_neg c60] at H; exact absurd H (by simp)
 ·replace c3 := Bool.eq_false_iff.mpr c3; subst c3; have H1 : (some (([] : List (List Int)), false)) = some (r1, r2) := by rw [if_neg (show ¬ (false = true) by decide)] at H; exact H
  clear H; have H := H1; clear H1; simp only [Option.some.injEq, Prod.mk.injEq] at H; obtain ⟨rfl, rfl⟩ := H
  go_enter Try.func48, Try.ntmps48
  go_wp2_with (first | ((with_reducible refine gate_callee (f := 70) rfl ?_); refine goesL_ (some 14) rfl rfl Try.func70 (by kernel_rfl) rfl #[.slice A0 l0.length c0] rfl (by (try simp only [List.map_toArray, List.map_cons, List.map_nil]); first | done | rfl | (simp only [List.length_drop, List.length_take]; rfl)) ?_; (with_reducible refine (spec_PolygonOk.calls k _ _ l0 false _ ?side1 ?side2 A2.out).mono ?_); (case side1 => repeat (first | exact HR0.out | (with_reducible refine Kd.C_alloc ?_ _) | (with_reducible refine Kd.C_drewN ?_ _) | (with_reducible refine Kd.C_drew ?_))); (case side2 => exact HC0.out); rintro e w70 ⟨rfl, hb⟩; refine ⟨_, rfl, ?_⟩; have n0_ := Ak (below_step (by repeat (first | exact HB.out | apply bA | apply bD | apply bE)) hb); clear HB; have HB := n0_; clear n0_; (try clear hb); (try clear hb2); (try clear hk); (try clear hi)))
  go_ret2
  exact ⟨_, by first | rfl | (simp [*, errW_none, errW_some] <;> rfl), by first | exact Kd.S_nil _ _ _ _ _ | exact Kd.N_nil _ _ _ _ _ | exact Kd.V_nil _ _ _ _ _ | exact Kd.Q_nil _ _ _ _ _ | exact Kd.R_nil _ _ _ _ _, by repeat (first | (with_reducible first | exact HB.out | apply bA | apply bD | apply bE) | exact HB.out)⟩

end Go.Proofs.Ytlccpkggdmngaaa.G
