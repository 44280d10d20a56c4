/- A Go function as a plain Lean function, and the proof that Go's call comes to its answer. No conditions but those in the theorem. Written by gen.py (a program of this session over the kit's print). -/
-- SHRUNK by pack.py
import Derived.Test.YtlccpkggdmngaaaG0
import Derived.Test.YtlccpkggdmngaaaF13
import Derived.Test.YtlccpkggdmngaaaF89
import Derived.Test.YtlccpkggdmngaaaF91
import Derived.Test.YtlccpkggdmngaaaF92
namespace Go.Proofs.Ytlccpkggdmngaaa.G
open Go.RowKit Go.Proofs.YtlccpkggdmngaaaW.PrintWords Go.Proofs.YtlccpkggdmngaaaW.PrintLast Go.Proofs.YtlccpkggdmngaaaW.PrintMore Go.Proofs.YtlccpkggdmngaaaW.PrintBits
attribute [local go_sem] max2_int min2_int max_two min_two max_three min_three max_four min_four   -- for this text's walks alone
set_option linter.unusedVariables false
set_option linter.unusedSimpArgs false

/-! ### impl_Triangulate: function 49 -/
mutual
def impl_Triangulate.l0 : Nat → List (S27) → List Int → Int → Int → Option ((List (List Int)) × Bool)
 | 0, _, _, _, _ => none
 | k + 1, x0, x4, x18, x19 => if x19 < x18 then (if x4.length < 17592186044416 then (impl_Triangulate.l0 k x0 (x4 ++ [x19]) x18 (wrap64 (x19 + 1))) else (none)) else (impl_Triangulate.l1 k x0 x4 (([] : List (List Int))))
def impl_Triangulate.l1 : Nat → List (S27) → List Int → List (List Int) → Option ((List (List Int)) × Bool)
 | 0, _, _, _ => none
 | k + 1, x0, x4, x7 => if (x4.length : Int) > 3 then (impl_Triangulate.l2 k x0 x4 x7 (x4.length : Int) (([] : List (S27))) x4 (x4.length : Int) 0) else (if 0 < (x4.length : Int) then (if 1 < (x4.length : Int) then (if 2 < (x4.length : Int) then ((impl_Triangulate_1.f (rd x4 0) (rd x4 1) (rd x4 2) x7).bind fun t114 => (some (t114, true))) else (none)) else (none)) else (none))
def impl_Triangulate.l2 : Nat → List (S27) → List Int → List (List Int) → Int → List (S27) → List Int → Int → Int → Option ((List (List Int)) × Bool)
 | 0, _, _, _, _, _, _, _, _ => none
 | k + 1, x0, x4, x7, x8, x9, x35, x36, x37 => if x37 < x36 then (if 0 ≤ x37 then (if x37 < (x35.length : Int) then (if 0 ≤ (rd x35 x37) then (if (rd x35 x37) < (x0.length : Int) then (if x9.length < 8796093022208 then (impl_Triangulate.l2 k x0 x4 x7 x8 (x9 ++ [(⟨(rd_T27 x0 (rd x35 x37)).f0, (rd_T27 x0 (rd x35 x37)).f1⟩ : S27)]) x35 x36 (wrap64 (x37 + 1))) else (none)) else (none)) else (none)) else (none)) else (none)) else (impl_Triangulate.l3 k x0 x4 x7 x8 x9 0)
def impl_Triangulate.j4 : Nat → List (S27) → List Int → List (List Int) → Int → Int → Option ((List (List Int)) × Bool)
 | 0, _, _, _, _, _ => none
 | k + 1, x0, x4, x7, x8, x12 => if x12 = x8 then (some (([] : List (List Int)), false)) else (if x8 = 0 then (none) else (if 0 ≤ (Int.tmod (wrap64 ((wrap64 (x12 + x8)) - 1)) x8) then (if (Int.tmod (wrap64 ((wrap64 (x12 + x8)) - 1)) x8) < (x4.length : Int) then (if 0 ≤ x12 then (if x12 < (x4.length : Int) then (if 0 ≤ (Int.tmod (wrap64 (x12 + 1)) x8) then (if (Int.tmod (wrap64 (x12 + 1)) x8) < (x4.length : Int) then ((impl_Triangulate_1.f (rd x4 (Int.tmod (wrap64 ((wrap64 (x12 + x8)) - 1)) x8)) (rd x4 x12) (rd x4 (Int.tmod (wrap64 (x12 + 1)) x8)) x7).bind fun t129 => ((slices_Delete_int_int.f x4 x12 (wrap64 (x12 + 1))).bind fun t132 => (impl_Triangulate.l1 k x0 t132 t129))) else (none)) else (none)) else (none)) else (none)) else (none)) else (none)))
def impl_Triangulate.l3 : Nat → List (S27) → List Int → List (List Int) → Int → List (S27) → Int → Option ((List (List Int)) × Bool)
 | 0, _, _, _, _, _, _ => none
 | k + 1, x0, x4, x7, x8, x9, x12 => if x12 < x8 then ((impl_isEar.f k x9 x12).bind fun t125 => (if t125 = true then (impl_Triangulate.j4 k x0 x4 x7 x8 x12) else (impl_Triangulate.l3 k x0 x4 x7 x8 x9 (wrap64 (x12 + 1))))) else (impl_Triangulate.j4 k x0 x4 x7 x8 x12)
end
def impl_Triangulate.f (k : Nat) (l0 : List (S27)) : Option ((List (List Int)) × Bool) := (impl_PolygonOk.f l0).bind fun t101 => (if t101 = true then (impl_Triangulate.l0 k l0 (([] : List Int)) (l0.length : Int) 0) else (some (([] : List (List Int)), false)))
def impl_Triangulate.T24 : Bool × List (List Nat × List Nat) := (true, [([], []), ([], []), ([], []), ([], []), ([2, 3], [2, 3]), ([4], [4]), ([], []), ([5, 6], [5, 6]), ([1, 7], [1, 7]), ([8], [8]), ([], []), ([], []), ([10, 11], [10, 11]), ([12], [12]), ([], []), ([], []), ([15], [15]), ([], []), ([16, 17], [16, 17]), ([14, 18], [14, 18]), ([19], [19]), ([0, 9, 13, 20], [0, 9, 13, 20])])
def impl_Triangulate.B24 : List Nat := [0, 0, 0, 0, 12, 28, 0, 124, 254, 510, 0, 0, 3072, 7168, 0, 0, 32768, 0, 229376, 507904, 1032192, 2097151]
theorem impl_Triangulate.tab24 : rtab .any (opsOf Try.f49 24) = impl_Triangulate.T24 := by kernel_rfl
theorem impl_Triangulate.bits24 : waitsOk impl_Triangulate.T24.2 impl_Triangulate.B24 = true := by kernel_rfl
def impl_Triangulate.T26 : Bool × List (List Nat × List Nat) := (true, [([], []), ([], []), ([1], [1]), ([2], [2]), ([], []), ([4], [4]), ([5], [5]), ([], []), ([7], [7]), ([8], [8]), ([0, 3, 6, 9], [0, 3, 6, 9])])
def impl_Triangulate.B26 : List Nat := [0, 0, 2, 6, 0, 16, 48, 0, 128, 384, 1023]
theorem impl_Triangulate.tab26 : rtab .any (opsOf Try.f49 26) = impl_Triangulate.T26 := by kernel_rfl
theorem impl_Triangulate.bits26 : waitsOk impl_Triangulate.T26.2 impl_Triangulate.B26 = true := by kernel_rfl
set_option maxHeartbeats 8000000 in
set_option maxRecDepth 100000 in
theorem impl_Triangulate.calls (k : Nat) (A0 : Option Addr) (c0 : Nat) (l0 : List (S27)) (r1 : List (List Int)) (r2 : Bool) (w : World) (hr0 : Kd.C k27 w A0 l0.length l0) (hc0 : l0.length ≤ c0) (h : impl_Triangulate.f k l0 = some (r1, r2)) :
  Calls Try.prog 49 #[.slice A0 l0.length c0] w fun e w' => ∃ v0_ : Value, e = .returned (.tuple #[v0_, .bool r2]) ∧ Kd.S (Kd.slice 3 (Kd.int .i64)) 78 w' w.heap.size (fun _ => True) v0_ r1 ∧ Below w.heap.size w w' := by
 have hu27 := Try.underlying27; have hmf : ∀ (fn : Fn) (first cap : Array Value) (w : World), (Instr.makeFunc fn first cap).run Try.prog w = .ok (.func fn first cap) w := fun _ _ _ _ => rfl
 have HR0 := Ak hr0; have HC0 := Ak hc0; clear hr0 hc0; have HB := Ak (Below.refl w.heap.size w); have H : ((impl_PolygonOk.f l0).bind fun t101 => (if t101 = true then (impl_Triangulate.l0 k l0 (([] : List Int)) (l0.length : Int) 0) else (some (([] : List (List Int)), false)))) = some (r1, r2) := h; clear h; replace H := Option.bind_eq_some_iff.mp H; obtain ⟨t101, A20, H⟩ := H; replace H : (if t101 = true then (impl_Triangulate.l0 k l0 (([] : List Int)) (l0.length : Int) 0) else (some (([] : List (List Int)), false))) = some (r1, r2) := H; have A2 := Ak A20; clear A20
 by_cases c3 : t101 = true
 ·subst c3; have H1 : (impl_Triangulate.l0 k l0 (([] : List Int)) (l0.length : Int) 0) = some (r1, r2) := by rw [if_pos rfl] at H; exact H
  clear H; have H := H1; clear H1; obtain ⟨y102, hy102⟩ : ∃ y_ : List Int, y_ = (([] : List Int)) := ⟨_, rfl⟩; replace H : (impl_Triangulate.l0 k l0 y102 (l0.length : Int) 0) = some (r1, r2) := by first | (rw [hy102]; exact H) | exact H
  have Ny102 := Ak hy102; clear hy102; have H' := Ak H; clear H
  go_enter Try.func49, Try.ntmps49
  go_wp2_with (first | ((with_reducible refine gate_callee (f := 13) rfl ?_); refine goesL_ (some 14) rfl rfl Try.func13 (by kernel_rfl) rfl #[.slice A0 l0.length c0] rfl (by (try simp only [List.map_toArray, List.map_cons, List.map_nil]); first | done | rfl | (simp only [List.length_drop, List.length_take]; rfl)) ?_; (with_reducible refine (impl_PolygonOk.calls _ _ l0 true _ ?side1 ?side2 A2.out).mono ?_); (case side1 => repeat (first | exact HR0.out | (with_reducible refine Kd.C_alloc ?_ _) | (with_reducible refine Kd.C_drewN ?_ _) | (with_reducible refine Kd.C_drew ?_))); (case side2 => exact HC0.out); rintro e w4 ⟨rfl, hb⟩; refine ⟨_, rfl, ?_⟩; have n0_ := Ak (below_step (by repeat (first | exact HB.out | apply bA | apply bD | apply bE)) hb); clear HB; have HB := n0_; clear n0_; (try clear hb); (try clear hb2); (try clear hk); (try clear hi)) | ((with_reducible refine gate_dst (N := 16) rfl ?_); refine Kd.R_lit (Kd.int .i64) _ 3 ?hg (N := 16) ?hd (xs := ([] : List Int)) (inner := []) (ok := fun _ => True) (okp := fun _ => True) ?hr ?hp (fun _ hk => hk) trivial (Below.refl _ _) (Nat.le_refl _) (by simp) ?_; (case hd | hg => rfl); (case hr => first | (go_simp; done) | (go_simp; rfl)); (case hp => exact (Reps.none _ _)); intro v103 w5 ho6 hb hg_ hnew_; clear hg_ hnew_; (first | rw [← Ny102.out] at ho6 | (simp only [Int.reduceToNat] at ho6; rw [← Ny102.out] at ho6)); have n0_ := Ak (Kd.R_lower ho6 (below_size (by repeat (first | exact HB.out | apply bA | apply bD | apply bE)))); have n1_ := Ak (below_step (by repeat (first | exact HB.out | apply bA | apply bD | apply bE)) hb); clear HB; have HO104 := n0_; have HB := n1_; clear n0_ n1_; clear hb ho6))
  go_loopg [4, 19] k (fun kq v4 v19 w' => ∃ (x4_1 : List Int) (x19_1 : Int), v19 = .int .i64 x19_1 ∧ Aside0 (impl_Triangulate.l0 kq l0 x4_1 (l0.length : Int) x19_1 = some (r1, r2)) ∧ Aside0 (kq ≤ k) ∧ Aside0 (Kd.R (Kd.int .i64) 3 w' w.heap.size (fun _ => True) v4 x4_1) ∧ Aside0 (Below w.heap.size w w'))
  case atStart => exact ⟨(y102), (0), (by first | rfl | (simp; done) | (simp [*]; done)), H', ⟨Nat.le_refl _⟩, ⟨by (with_reducible repeat (first | apply Kd.R_alloc | apply Kd.R_drewN | apply Kd.R_drew)); exact HO104.out⟩, ⟨by repeat (first | (with_reducible first | exact HB.out | apply bA | apply bD | apply bE) | exact HB.out)⟩⟩
  case round =>
   clear H'
   try clear c1
   try clear p2
   try clear c3
   try clear c4
   obtain ⟨x4_1, x19_1, rfl, HA, HK1, HO_4, HB⟩ := hrel
   cases gk with
   | zero => exact absurd HA.out (by simp [impl_Triangulate.l0])
   | succ k1 =>
    have H := HA.out; clear HA; simp only [impl_Triangulate.l0] at H
    by_cases c7 : x19_1 < (l0.length : Int)
    ·rw [if_pos c7] at H; have c7b0 : decide (x19_1 < (l0.length : Int)) = true := decide_eq_true c7; clear c7
     by_cases c8 : x4_1.length < 17592186044416
     ·rw [if_pos c8] at H; have LMc8 := Ak c8; clear c8; obtain ⟨y105, hy105⟩ : ∃ y_ : List Int, y_ = (x4_1 ++ [x19_1]) := ⟨_, rfl⟩; replace H : (impl_Triangulate.l0 k1 l0 y105 (l0.length : Int) (wrap64 (x19_1 + 1))) = some (r1, r2) := by first | (rw [hy105]; exact H) | exact H
      have Ny105 := Ak hy105; clear hy105; have H' := Ak H; clear H
      go_wp2_with (first | ((with_reducible refine gate_builtin (b := .append) (xs := #[.tmp 22, .tmp 24]) rfl ?_); at_builtin; refine Kd.R_append (Kd.int .i64) (w0 := w) w.heap.size rfl (.tmp 22) (.tmp 24) 78 3 (.int .i64 0) 8 rfl Try.underlying78 info3 rfl (by decide) (by omega) u4 x4_1 x19_1 [.int .i64 x19_1] (fun _ => True) (fun _ => False) rfl rfl ?aP (fun _ hk => hk.elim) ?aF ?aO ?aB ?aS ?aL ?_; (case aP => exact rfl); (case aB => exact (by repeat (first | exact HB.out | apply bA | apply bD | apply bE))); (case aF => exact (fun _ _ => trivial)); (case aO => exact (by (with_reducible repeat (first | apply Kd.R_alloc | apply Kd.R_drewN | apply Kd.R_drew)); exact HO_4.out)); (case aS => exact (below_size (by repeat (first | exact HB.out | apply bA | apply bD | apply bE)))); (case aL => have := LMc8.out; omega); intro v106 w9 ho hb hg hat; rw [← Ny105.out] at ho; have n0_ := Ak (hb); have n1_ := Ak (ho); clear HB; clear HO_4; have HB := n0_; have HO107 := n1_; clear n0_ n1_; clear ho hb hg hat))
      go_roundg k1
      case measure => have := HK1.out; omega
      case rel => exact ⟨(y105), (wrap64 (x19_1 + 1)), (by first | rfl | (simp; done) | (simp [*]; done)), H', ⟨by have := HK1.out; omega⟩, ⟨by (with_reducible repeat (first | apply Kd.R_alloc | apply Kd.R_drewN | apply Kd.R_drew)); exact HO107.out⟩, ⟨by repeat (first | (with_reducible first | exact HB.out | apply bA | apply bD | apply bE) | exact HB.out)⟩⟩
     ·rw [if_neg c8] at H; exact absurd H (by simp)
    ·rw [if_neg c7] at H; have c7b0 : decide (x19_1 < (l0.length : Int)) = false := decide_eq_false c7; clear c7; obtain ⟨y108, hy108⟩ : ∃ y_ : List (List Int), y_ = (([] : List (List Int))) := ⟨_, rfl⟩; replace H : (impl_Triangulate.l1 k1 l0 x4_1 y108) = some (r1, r2) := by first | (rw [hy108]; exact H) | exact H
     have Ny108 := Ak hy108; clear hy108; have H' := Ak H; clear H
     go_wp2_with (first | ((with_reducible refine gate_dst (N := 27) rfl ?_); refine Kd.S_lit (Kd.slice 3 (Kd.int .i64)) _ 78 ?hg (N := 27) ?hd (xs := ([] : List (List Int))) (inner := []) (ok := fun _ => True) (okp := fun _ => True) ?hr ?hp (fun _ hk => hk) trivial (Below.refl _ _) (Nat.le_refl _) (by simp) ?_; (case hd | hg => rfl); (case hr => first | (go_simp; done) | (go_simp; rfl)); (case hp => exact (Reps.none _ _)); intro v109 w10 ho11 hb hg_ hnew_; clear hg_ hnew_; (first | rw [← Ny108.out] at ho11 | (simp only [Int.reduceToNat] at ho11; rw [← Ny108.out] at ho11)); have n0_ := Ak (Kd.R_below (by (with_reducible repeat (first | apply Kd.R_alloc | apply Kd.R_drewN | apply Kd.R_drew)); exact HO_4.out) hb); have n1_ := Ak (Kd.S_lower (Kd.S_new' ho11 (Kd.R_lt (by (with_reducible repeat (first | apply Kd.R_alloc | apply Kd.R_drewN | apply Kd.R_drew)); exact HO_4.out))) (below_size (by repeat (first | exact HB.out | apply bA | apply bD | apply bE)))); have n2_ := Ak (below_step (by repeat (first | exact HB.out | apply bA | apply bD | apply bE)) hb); clear HO_4; clear HB; have HO_4 := n0_; have HO110 := n1_; have HB := n2_; clear n0_ n1_ n2_; clear hb ho11; obtain ⟨A7, c7_, e7⟩ := Kd.S_slice HO110.out; subst e7) | ((with_reducible refine gate_dst (N := 6) rfl ?_); refine box_event ?hg (N := 6) ?hd (cs := #[.slice none 0 0]) (t := 49) ?hr ?_; (case hd | hg => rfl); (case hr => first | (go_simp; done) | (go_simp; rfl)); intro go hgo w11 hbox hbel; have GO := Ak hbox; have GGE := Ak (show w.heap.size ≤ go by rw [hgo]; exact below_size (by repeat (first | exact HB.out | apply bA | apply bD | apply bE))); have n0_ := Ak (Kd.R_below (by (with_reducible repeat (first | apply Kd.R_alloc | apply Kd.R_drewN | apply Kd.R_drew)); exact HO_4.out) hbel); have n1_ := Ak (Kd.S_below (by (with_reducible repeat (first | apply Kd.S_alloc | apply Kd.S_drewN | apply Kd.S_drew)); exact HO110.out) hbel); have n2_ := Ak (below_step (by repeat (first | exact HB.out | apply bA | apply bD | apply bE)) hbel); clear HO_4 HO110 HB; have HO_4 := n0_; have HO110 := n1_; have HB := n2_; clear n0_ n1_ n2_; have hcg : w11.cell? ⟨go, 0, none⟩ = some (.slice none 0 0) := (blk_cell GO.out 0).trans rfl; have hfg := blk_frozen GO.out 0; clear hbox hbel hgo))
     have GO2 := Ak (blk_put GO.out 0 (.slice A7 y108.length c7_) rfl); have n0_ := Ak (Kd.R_set HO_4.out GO.out (by decide) 0 (.slice A7 y108.length c7_)); have n1_ := Ak (Kd.S_set HO110.out GO.out (by decide) 0 (.slice A7 y108.length c7_)); have n2_ := Ak (show Below w.heap.size w (w11.setCell ⟨go, 0, none⟩ (.slice A7 y108.length c7_)) from HB.out.setCell GGE.out _); clear HO_4 HO110 HB GO hcg hfg; have HO_4 := n0_; have HO110 := n1_; have HB := n2_; clear n0_ n1_ n2_
     go_loopg [4] k1 (fun kq v4 w' => ∃ (x4_2 : List Int) (x7_2 : List (List Int)), Aside0 (impl_Triangulate.l1 kq l0 x4_2 x7_2 = some (r1, r2)) ∧ Aside0 (kq ≤ k1) ∧ Aside0 (Kd.R (Kd.int .i64) 3 w' w.heap.size (fun _ => True) v4 x4_2) ∧ Aside0 (Tri ((v4 : Value).ownBlock) go w.heap.size w' x7_2) ∧ Aside0 (Below w.heap.size w w'))
     case atStart => exact ⟨(x4_1), (y108), H', ⟨Nat.le_refl _⟩, ⟨by (with_reducible repeat (first | apply Kd.R_alloc | apply Kd.R_drewN | apply Kd.R_drew)); exact HO_4.out⟩, ⟨by exact Tri.start (Kd.S_mono HO110.out (fun _ hk => hk.2)) GO2.out GGE.out⟩, ⟨by repeat (first | (with_reducible first | exact HB.out | apply bA | apply bD | apply bE) | exact HB.out)⟩⟩
     case round =>
      clear H'
      try clear c1
      try clear p2
      try clear c3
      try clear c4
      try clear p6
      try clear c7
      try clear c7b0
      try clear c8
      try clear p2
      obtain ⟨x4_2, x7_2, HA, HK2, HO_4, HO_7, HB⟩ := hrel
      cases gk with
      | zero => exact absurd HA.out (by simp [impl_Triangulate.l1])
      | succ k2 =>
       have H := HA.out; clear HA; simp only [impl_Triangulate.l1] at H
       by_cases c12 : (x4_2.length : Int) > 3
       ·rw [if_pos c12] at H; have c12b0 : decide (3 < (x4_2.length : Int)) = true := decide_eq_true c12; have c12b1 : decide (3 < x4_2.length) = true := decide_eq_true (by omega); clear c12; obtain ⟨y117, hy117⟩ : ∃ y_ : List (S27), y_ = (([] : List (S27))) := ⟨_, rfl⟩; replace H : (impl_Triangulate.l2 k2 l0 x4_2 x7_2 (x4_2.length : Int) y117 x4_2 (x4_2.length : Int) 0) = some (r1, r2) := by first | (rw [hy117]; exact H) | exact H
        have Ny117 := Ak hy117; clear hy117; have H' := Ak H; clear H; obtain ⟨Ao13, co13, eo13⟩ := Kd.R_slice HO_4.out; subst eo13
        go_wp2_with (first | ((with_reducible refine gate_dst (N := 34) rfl ?_); refine Kd.R_lit k27 _ 27 ?hg (N := 34) ?hd (xs := ([] : List (S27))) (inner := []) (ok := fun _ => True) (okp := fun _ => True) ?hr ?hp (fun _ hk => hk) trivial (Below.refl _ _) (Nat.le_refl _) (by simp) ?_; (case hd | hg => rfl); (case hr => first | (go_simp; done) | (go_simp; rfl)); (case hp => exact (Reps.none _ _)); intro v118 w14 ho15 hb hg_ hnew_; clear hg_ hnew_; (first | rw [← Ny117.out] at ho15 | (simp only [Int.reduceToNat] at ho15; rw [← Ny117.out] at ho15)); have n0_ := Ak (Kd.R_below (by (with_reducible repeat (first | apply Kd.R_alloc | apply Kd.R_drewN | apply Kd.R_drew)); exact HO_4.out) hb); have n1_ := Ak (Tri.below (by (with_reducible repeat (first | apply Tri.alloc | apply Tri.drewN | apply Tri.drew)); exact HO_7.out) hb); have n2_ := Ak (Kd.R_lower ho15 (below_size (by repeat (first | exact HB.out | apply bA | apply bD | apply bE)))); have n3_ := Ak (below_step (by repeat (first | exact HB.out | apply bA | apply bD | apply bE)) hb); clear HO_4; clear HO_7; clear HB; have HO_4 := n0_; have HO_7 := n1_; have HO119 := n2_; have HB := n3_; clear n0_ n1_ n2_ n3_; clear hb ho15))
        go_loopg [9, 37] k2 (fun kq v9 v37 w' => ∃ (x9_3 : List (S27)) (x37_3 : Int), v37 = .int .i64 x37_3 ∧ Aside0 (impl_Triangulate.l2 kq l0 x4_2 x7_2 (x4_2.length : Int) x9_3 x4_2 (x4_2.length : Int) x37_3 = some (r1, r2)) ∧ Aside0 (kq ≤ k2) ∧ Aside0 (Kd.R (Kd.int .i64) 3 w' w.heap.size (fun _ => True) (.slice Ao13 x4_2.length co13) x4_2) ∧ Aside0 (Tri ((.slice Ao13 x4_2.length co13 : Value).ownBlock) go w.heap.size w' x7_2) ∧ Aside0 (Kd.R k27 27 w' w.heap.size (fun _ => True) v9 x9_3) ∧ Aside0 (Kd.R (Kd.int .i64) 3 w' w.heap.size (fun _ => True) (.slice Ao13 x4_2.length co13) x4_2) ∧ Aside0 (Below w.heap.size w w'))
        case atStart => exact ⟨(y117), (0), (by first | rfl | (simp; done) | (simp [*]; done)), H', ⟨Nat.le_refl _⟩, ⟨by (with_reducible repeat (first | apply Kd.R_alloc | apply Kd.R_drewN | apply Kd.R_drew)); exact HO_4.out⟩, ⟨by (with_reducible repeat (first | apply Tri.alloc | apply Tri.drewN | apply Tri.drew)); exact HO_7.out⟩, ⟨by (with_reducible repeat (first | apply Kd.R_alloc | apply Kd.R_drewN | apply Kd.R_drew)); exact HO119.out⟩, ⟨by (with_reducible repeat (first | apply Kd.R_alloc | apply Kd.R_drewN | apply Kd.R_drew)); exact HO_4.out⟩, ⟨by repeat (first | (with_reducible first | exact HB.out | apply bA | apply bD | apply bE) | exact HB.out)⟩⟩
        case round =>
         clear H'
         try clear c1
         try clear p2
         try clear c3
         try clear c4
         try clear p6
         try clear c7
         try clear c7b0
         try clear c8
         try clear c12
         try clear c12b0
         try clear c12b1
         try clear c13
         try clear p2
         try clear p6
         obtain ⟨x9_3, x37_3, rfl, HA, HK3, HO_4, HO_7, HO_9, HO_35, HB⟩ := hrel
         cases gk with
         | zero => exact absurd HA.out (by simp [impl_Triangulate.l2])
         | succ k3 =>
          have H := HA.out; clear HA; simp only [impl_Triangulate.l2] at H
          by_cases c16 : x37_3 < (x4_2.length : Int)
          ·rw [if_pos c16] at H; have c16b0 : decide (x37_3 < (x4_2.length : Int)) = true := decide_eq_true c16; clear c16
           by_cases c17 : 0 ≤ x37_3
           ·rw [if_pos c17] at H; have c17b0 : decide (0 ≤ x37_3) = true := decide_eq_true c17; clear c17
            by_cases c18 : x37_3 < (x4_2.length : Int)
            ·rw [if_pos c18] at H; have c18b0 : decide (x37_3 < (x4_2.length : Int)) = true := decide_eq_true c18; clear c18
             by_cases c19 : 0 ≤ (rd x4_2 x37_3)
             ·rw [if_pos c19] at H; have c19b0 : decide (0 ≤ (rd x4_2 x37_3)) = true := decide_eq_true c19; clear c19
              by_cases c20 : (rd x4_2 x37_3) < (l0.length : Int)
              ·rw [if_pos c20] at H; have c20b0 : decide ((rd x4_2 x37_3) < (l0.length : Int)) = true := decide_eq_true c20; clear c20
               by_cases c21 : x9_3.length < 8796093022208
               ·rw [if_pos c21] at H; have LMc21 := Ak c21; clear c21; obtain ⟨y122, hy122⟩ : ∃ y_ : List (S27), y_ = (x9_3 ++ [(⟨(rd_T27 l0 (rd x4_2 x37_3)).f0, (rd_T27 l0 (rd x4_2 x37_3)).f1⟩ : S27)]) := ⟨_, rfl⟩; replace H : (impl_Triangulate.l2 k3 l0 x4_2 x7_2 (x4_2.length : Int) y122 x4_2 (x4_2.length : Int) (wrap64 (x37_3 + 1))) = some (r1, r2) := by first | (rw [hy122]; exact H) | exact H
                have Ny122 := Ak hy122; clear hy122; have H' := Ak H; clear H; have p120 : 0 ≤ (x37_3 : Int) := of_decide_eq_true (by first | (with_reducible assumption) | assumption); have q120 : x37_3 < (x4_2.length : Int) := of_decide_eq_true (by first | (with_reducible assumption) | assumption); obtain ⟨ad120, e120, hx120_0⟩ := Kd.at_int (Kd.R_reads' HO_35.out).2.2 x37_3 p120 q120; cases e120; replace p120 := eq_true p120; replace q120 := eq_true q120; have p121 : 0 ≤ ((rd x4_2 x37_3) : Int) := of_decide_eq_true (by first | (with_reducible assumption) | assumption); have q121 : (rd x4_2 x37_3) < (l0.length : Int) := of_decide_eq_true (by first | (with_reducible assumption) | assumption); obtain ⟨ad121, e121, hx121_0, hx121_1⟩ := at_T27 HR0.out (rd x4_2 x37_3) p121 q121; cases e121; replace hx121_0 := cB HB.out hx121_0; replace hx121_1 := cB HB.out hx121_1; replace p121 := eq_true p121; replace q121 := eq_true q121
                go_wp2_with (first | ((with_reducible refine gate_builtin (b := .append) (xs := #[.tmp 41, .tmp 46]) rfl ?_); at_builtin; refine Kd.R_append k27 (w0 := w) w.heap.size rfl (.tmp 41) (.tmp 46) 23 27 (.agg #[(.int .i64 0), (.int .i64 0)]) 16 rfl Try.underlying23 info27 rfl (by decide) (by omega) u9 x9_3 (⟨(rd_T27 l0 (rd x4_2 x37_3)).f0, (rd_T27 l0 (rd x4_2 x37_3)).f1⟩ : S27) [.int .i64 ((rd_T27 l0 (rd x4_2 x37_3)).f0), .int .i64 ((rd_T27 l0 (rd x4_2 x37_3)).f1)] (fun _ => True) (fun _ => False) rfl rfl ?aP (fun _ hk => hk.elim) ?aF ?aO ?aB ?aS ?aL ?_; (case aP => exact k27_mkM _ _ _ (⟨(rd_T27 l0 (rd x4_2 x37_3)).f0, (rd_T27 l0 (rd x4_2 x37_3)).f1⟩ : S27)); (case aB => exact (by repeat (first | exact HB.out | apply bA | apply bD | apply bE))); (case aF => exact (fun _ _ => trivial)); (case aO => exact (by (with_reducible repeat (first | apply Kd.R_alloc | apply Kd.R_drewN | apply Kd.R_drew)); exact HO_9.out)); (case aS => exact (below_size (by repeat (first | exact HB.out | apply bA | apply bD | apply bE)))); (case aL => have := LMc21.out; omega); intro v123 w22 ho hb hg hat; rw [← Ny122.out] at ho; have n0_ := Ak (Kd.R_over' (by (with_reducible repeat (first | apply Kd.R_alloc | apply Kd.R_drewN | apply Kd.R_drew)); exact HO_4.out) (Kd.R_typed (by (with_reducible repeat (first | apply Kd.R_alloc | apply Kd.R_drewN | apply Kd.R_drew)); exact HO_9.out)) (by decide) hg); have n1_ := Ak (Tri.over (by (with_reducible repeat (first | apply Tri.alloc | apply Tri.drewN | apply Tri.drew)); exact HO_7.out) (Kd.R_typed (by (with_reducible repeat (first | apply Kd.R_alloc | apply Kd.R_drewN | apply Kd.R_drew)); exact HO_9.out)) hg); have n2_ := Ak (Kd.R_over' (by (with_reducible repeat (first | apply Kd.R_alloc | apply Kd.R_drewN | apply Kd.R_drew)); exact HO_35.out) (Kd.R_typed (by (with_reducible repeat (first | apply Kd.R_alloc | apply Kd.R_drewN | apply Kd.R_drew)); exact HO_9.out)) (by decide) hg); have n3_ := Ak (hb); have n4_ := Ak (ho); clear HO_4; clear HO_7; clear HO_35; clear HB; clear HO_9; have HO_4 := n0_; have HO_7 := n1_; have HO_35 := n2_; have HB := n3_; have HO124 := n4_; clear n0_ n1_ n2_ n3_ n4_; clear ho hb hg hat))
                go_roundg k3
                case measure => have := HK1.out; have := HK2.out; have := HK3.out; omega
                case rel => exact ⟨(y122), (wrap64 (x37_3 + 1)), (by first | rfl | (simp; done) | (simp [*]; done)), H', ⟨by have := HK1.out; have := HK2.out; have := HK3.out; omega⟩, ⟨by (with_reducible repeat (first | apply Kd.R_alloc | apply Kd.R_drewN | apply Kd.R_drew)); exact HO_4.out⟩, ⟨by (with_reducible repeat (first | apply Tri.alloc | apply Tri.drewN | apply Tri.drew)); exact HO_7.out⟩, ⟨by (with_reducible repeat (first | apply Kd.R_alloc | apply Kd.R_drewN | apply Kd.R_drew)); exact HO124.out⟩, ⟨by (with_reducible repeat (first | apply Kd.R_alloc | apply Kd.R_drewN | apply Kd.R_drew)); exact HO_35.out⟩, ⟨by repeat (first | (with_reducible first | exact HB.out | apply bA | apply bD | apply bE) | exact HB.out)⟩⟩
               ·rw [if_neg c21] at H; exact absurd H (by simp)
              ·rw [if_neg c20] at H; exact absurd H (by simp)
             ·rw [if_neg c19] at H; exact absurd H (by simp)
            ·rw [if_neg c18] at H; exact absurd H (by simp)
           ·rw [if_neg c17] at H; exact absurd H (by simp)
          ·rw [if_neg c16] at H; have c16b0 : decide (x37_3 < (x4_2.length : Int)) = false := decide_eq_false c16; clear c16; have HC23 := Ak H; clear H
           go_upto_block 6 with (fail)
           go_cut [12] (fun v12 wc => ∃ (kq : Nat) (x12_22 : Int), v12 = .int .i64 x12_22 ∧ Aside0 (impl_Triangulate.j4 kq l0 x4_2 x7_2 (x4_2.length : Int) x12_22 = some (r1, r2)) ∧ Aside0 (kq ≤ k3) ∧ Aside0 (Kd.R (Kd.int .i64) 3 wc w.heap.size (fun _ => True) (.slice Ao13 x4_2.length co13) x4_2) ∧ Aside0 (Tri ((.slice Ao13 x4_2.length co13 : Value).ownBlock) go w.heap.size wc x7_2) ∧ Aside0 (Below w.heap.size w wc))
           case first =>
            have H := HC23.out; clear HC23; have H' := Ak H; clear H
            go_wp2
            go_loopg [12] k3 (fun kq v12 w' => ∃ (x12_4 : Int), v12 = .int .i64 x12_4 ∧ Aside0 (impl_Triangulate.l3 kq l0 x4_2 x7_2 (x4_2.length : Int) x9_3 x12_4 = some (r1, r2)) ∧ Aside0 (kq ≤ k3) ∧ Aside0 (Kd.R (Kd.int .i64) 3 w' w.heap.size (fun _ => True) (.slice Ao13 x4_2.length co13) x4_2) ∧ Aside0 (Tri ((.slice Ao13 x4_2.length co13 : Value).ownBlock) go w.heap.size w' x7_2) ∧ Aside0 (Kd.R k27 27 w' w.heap.size (fun _ => True) u9 x9_3) ∧ Aside0 (Below w.heap.size w w'))
            case atStart => exact ⟨(0), (by first | rfl | (simp; done) | (simp [*]; done)), H', ⟨Nat.le_refl _⟩, ⟨by (with_reducible repeat (first | apply Kd.R_alloc | apply Kd.R_drewN | apply Kd.R_drew)); exact HO_4.out⟩, ⟨by (with_reducible repeat (first | apply Tri.alloc | apply Tri.drewN | apply Tri.drew)); exact HO_7.out⟩, ⟨by (with_reducible repeat (first | apply Kd.R_alloc | apply Kd.R_drewN | apply Kd.R_drew)); exact HO_9.out⟩, ⟨by repeat (first | (with_reducible first | exact HB.out | apply bA | apply bD | apply bE) | exact HB.out)⟩⟩
            case round =>
             clear H'
             try clear c1
             try clear p1
             try clear q1
             try clear hx1
             try clear c2
             try clear p2
             try clear c3
             try clear c4
             try clear p6
             try clear c7
             try clear c7b0
             try clear c8
             try clear c12
             try clear c12b0
             try clear c12b1
             try clear p12
             try clear q12
             try clear hx12
             try clear c13
             try clear c16
             try clear c16b0
             try clear c17
             try clear c17b0
             try clear c18
             try clear c18b0
             try clear c19
             try clear c19b0
             try clear c20
             try clear c20b0
             try clear c21
             try clear hx120_0
             try clear hx121_0
             try clear hx121_1
             try clear p120
             try clear p121
             try clear p2
             try clear p6
             try clear q120
             try clear q121
             obtain ⟨x12_4, rfl, HA, HK4, HO_4, HO_7, HO_9, HB⟩ := hrel
             cases gk with
             | zero => exact absurd HA.out (by simp [impl_Triangulate.l3])
             | succ k4 =>
              have H := HA.out; clear HA; simp only [impl_Triangulate.l3] at H
              by_cases c24 : x12_4 < (x4_2.length : Int)
              ·rw [if_pos c24] at H; have c24b0 : decide (x12_4 < (x4_2.length : Int)) = true := decide_eq_true c24; clear c24
               (first | rw [c24b0] | (simp only [i64_w, i32_w]; rw [c24b0]) | skip)
               replace H := Option.bind_eq_some_iff.mp H; obtain ⟨t125, A250, H⟩ := H; replace H : (if t125 = true then (impl_Triangulate.j4 k4 l0 x4_2 x7_2 (x4_2.length : Int) x12_4) else (impl_Triangulate.l3 k4 l0 x4_2 x7_2 (x4_2.length : Int) x9_3 (wrap64 (x12_4 + 1)))) = some (r1, r2) := H; have A25 := Ak A250; clear A250
               by_cases c26 : t125 = true
               ·subst c26; have H1 : (impl_Triangulate.j4 k4 l0 x4_2 x7_2 (x4_2.length : Int) x12_4) = some (r1, r2) := by rw [if_pos rfl] at H; exact H
                clear H; have H := H1; clear H1; have H' := Ak H; clear H; obtain ⟨Ao27, co27, eo27⟩ := Kd.R_slice HO_9.out; subst eo27
                go_wp2_with (first | (go_at_call 91; (with_reducible refine (impl_isEar.calls k4 _ _ x9_3 x12_4 true _ ?side1 ?side2 A25.out).mono ?_); (case side1 => repeat (first | exact (Kd.R_reads' HO_9.out).2.2 | (with_reducible refine Kd.C_alloc ?_ _) | (with_reducible refine Kd.C_drewN ?_ _) | (with_reducible refine Kd.C_drew ?_))); (case side2 => exact (Kd.R_reads' HO_9.out).2.1); rintro e w28 ⟨rfl, hb⟩; have n0_ := Ak (Kd.R_below (by (with_reducible repeat (first | apply Kd.R_alloc | apply Kd.R_drewN | apply Kd.R_drew)); exact HO_4.out) hb); have n1_ := Ak (Tri.below (by (with_reducible repeat (first | apply Tri.alloc | apply Tri.drewN | apply Tri.drew)); exact HO_7.out) hb); have n2_ := Ak (Kd.R_below (by (with_reducible repeat (first | apply Kd.R_alloc | apply Kd.R_drewN | apply Kd.R_drew)); exact HO_9.out) hb); have n3_ := Ak (below_step (by repeat (first | exact HB.out | apply bA | apply bD | apply bE)) hb); clear HO_4; clear HO_7; clear HO_9; clear HB; have HO_4 := n0_; have HO_7 := n1_; have HO_9 := n2_; have HB := n3_; clear n0_ n1_ n2_ n3_; (try clear hb); (try clear hb2); (try clear hk); (try clear hi)))
                go_meet
                case rel => exact ⟨_, (x12_4), (by first | rfl | (simp; done) | (simp [*]; done)), H', ⟨by have := HK1.out; have := HK2.out; have := HK3.out; have := HK4.out; first | omega | exact Nat.le_refl _⟩, ⟨by (with_reducible repeat (first | apply Kd.R_alloc | apply Kd.R_drewN | apply Kd.R_drew)); exact HO_4.out⟩, ⟨by (with_reducible repeat (first | apply Tri.alloc | apply Tri.drewN | apply Tri.drew)); exact HO_7.out⟩, ⟨by repeat (first | (with_reducible first | exact HB.out | apply bA | apply bD | apply bE) | exact HB.out)⟩⟩
               ·replace c26 := Bool.eq_false_iff.mpr c26; subst c26; have H1 : (impl_Triangulate.l3 k4 l0 x4_2 x7_2 (x4_2.length : Int) x9_3 (wrap64 (x12_4 + 1))) = some (r1, r2) := by rw [if_neg (show ¬ (false = true) by decide)] at H; exact H
                clear H; have H := H1; clear H1; have H' := Ak H; clear H; obtain ⟨Ao29, co29, eo29⟩ := Kd.R_slice HO_9.out; subst eo29
                go_wp2_with (first | (go_at_call 91; (with_reducible refine (impl_isEar.calls k4 _ _ x9_3 x12_4 false _ ?side1 ?side2 A25.out).mono ?_); (case side1 => repeat (first | exact (Kd.R_reads' HO_9.out).2.2 | (with_reducible refine Kd.C_alloc ?_ _) | (with_reducible refine Kd.C_drewN ?_ _) | (with_reducible refine Kd.C_drew ?_))); (case side2 => exact (Kd.R_reads' HO_9.out).2.1); rintro e w30 ⟨rfl, hb⟩; have n0_ := Ak (Kd.R_below (by (with_reducible repeat (first | apply Kd.R_alloc | apply Kd.R_drewN | apply Kd.R_drew)); exact HO_4.out) hb); have n1_ := Ak (Tri.below (by (with_reducible repeat (first | apply Tri.alloc | apply Tri.drewN | apply Tri.drew)); exact HO_7.out) hb); have n2_ := Ak (Kd.R_below (by (with_reducible repeat (first | apply Kd.R_alloc | apply Kd.R_drewN | apply Kd.R_drew)); exact HO_9.out) hb); have n3_ := Ak (below_step (by repeat (first | exact HB.out | apply bA | apply bD | apply bE)) hb); clear HO_4; clear HO_7; clear HO_9; clear HB; have HO_4 := n0_; have HO_7 := n1_; have HO_9 := n2_; have HB := n3_; clear n0_ n1_ n2_ n3_; (try clear hb); (try clear hb2); (try clear hk); (try clear hi)))
                go_roundg k4
                case measure => have := HK1.out; have := HK2.out; have := HK3.out; have := HK4.out; omega
                case rel => exact ⟨(wrap64 (x12_4 + 1)), (by first | rfl | (simp; done) | (simp [*]; done)), H', ⟨by have := HK1.out; have := HK2.out; have := HK3.out; have := HK4.out; omega⟩, ⟨by (with_reducible repeat (first | apply Kd.R_alloc | apply Kd.R_drewN | apply Kd.R_drew)); exact HO_4.out⟩, ⟨by (with_reducible repeat (first | apply Tri.alloc | apply Tri.drewN | apply Tri.drew)); exact HO_7.out⟩, ⟨by (with_reducible repeat (first | apply Kd.R_alloc | apply Kd.R_drewN | apply Kd.R_drew)); exact HO_9.out⟩, ⟨by repeat (first | (with_reducible first | exact HB.out | apply bA | apply bD | apply bE) | exact HB.out)⟩⟩
              ·rw [if_neg c24] at H; have c24b0 : decide (x12_4 < (x4_2.length : Int)) = false := decide_eq_false c24; clear c24
               (first | rw [c24b0] | (simp only [i64_w, i32_w]; rw [c24b0]) | skip)
               have H' := Ak H; clear H
               go_wp2
               go_meet
               case rel => exact ⟨_, (x12_4), (by first | rfl | (simp; done) | (simp [*]; done)), H', ⟨by have := HK1.out; have := HK2.out; have := HK3.out; have := HK4.out; first | omega | exact Nat.le_refl _⟩, ⟨by (with_reducible repeat (first | apply Kd.R_alloc | apply Kd.R_drewN | apply Kd.R_drew)); exact HO_4.out⟩, ⟨by (with_reducible repeat (first | apply Tri.alloc | apply Tri.drewN | apply Tri.drew)); exact HO_7.out⟩, ⟨by repeat (first | (with_reducible first | exact HB.out | apply bA | apply bD | apply bE) | exact HB.out)⟩⟩
           case rest =>
            clear HC23
            try clear c1
            try clear p1
            try clear q1
            try clear hx1
            try clear c2
            try clear p2
            try clear c3
            try clear c4
            try clear p6
            try clear c7
            try clear c7b0
            try clear c8
            try clear c12
            try clear c12b0
            try clear c12b1
            try clear p12
            try clear q12
            try clear hx12
            try clear c13
            try clear c16
            try clear c16b0
            try clear c17
            try clear c17b0
            try clear c18
            try clear c18b0
            try clear c19
            try clear c19b0
            try clear c20
            try clear c20b0
            try clear c21
            try clear c24
            try clear c24b0
            try clear c26
            try clear hx120_0
            try clear hx121_0
            try clear hx121_1
            try clear p1
            try clear p12
            try clear p120
            try clear p121
            try clear p2
            try clear p6
            try clear q1
            try clear q12
            try clear q120
            try clear q121
            obtain ⟨kq, x12_22, rfl, HA, HJ22, HO_4, HO_7, HB⟩ := hcut
            cases kq with
            | zero => exact absurd HA.out (by simp [impl_Triangulate.j4])
            | succ kj22 =>
             have H := HA.out; clear HA; simp only [impl_Triangulate.j4] at H
             by_cases c31 : x12_22 = (x4_2.length : Int)
             ·rw [if_pos c31] at H; have c31b0 : (x12_22 == (x4_2.length : Int)) = true := beq_iff_eq.mpr c31; have c31b1 : (x12_22 != (x4_2.length : Int)) = false := bne_eq_false_iff_eq.mpr c31; clear c31; simp only [Option.some.injEq, Prod.mk.injEq] at H; obtain ⟨rfl, rfl⟩ := H
              go_wp2
              go_ret2
              exact ⟨_, by first | rfl | (simp [*, errW_none, errW_some] <;> rfl), by first | exact Kd.S_nil _ _ _ _ _ | exact Kd.N_nil _ _ _ _ _ | exact Kd.V_nil _ _ _ _ _ | exact Kd.Q_nil _ _ _ _ _ | exact Kd.R_nil _ _ _ _ _, by repeat (first | (with_reducible first | exact HB.out | apply bA | apply bD | apply bE) | exact HB.out)⟩
             ·rw [if_neg c31] at H; have c31b0 : (x12_22 == (x4_2.length : Int)) = false := beq_eq_false_iff_ne.mpr c31; have c31b1 : (x12_22 != (x4_2.length : Int)) = true := bne_iff_ne.mpr c31
              by_cases c32 : (x4_2.length : Int) = 0
              ·rw [if_pos c32] at H; exact absurd H (by simp)
              ·rw [if_neg c32] at H; have c32b0 : ((x4_2.length : Int) == 0) = false := beq_eq_false_iff_ne.mpr c32; have c32b1 : ((x4_2.length : Int) != 0) = true := bne_iff_ne.mpr c32; have c32b2 : ¬ (x4_2 = []) := fun h_ => c32 (by rw [h_]; rfl)
               obtain ⟨ji33, hji33⟩ : ∃ j_ : Int, (Int.tmod (wrap64 ((wrap64 (x12_22 + (x4_2.length : Int))) - 1)) (x4_2.length : Int)) = j_ := ⟨_, rfl⟩; replace H : (if 0 ≤ (ji33) then (if (ji33) < (x4_2.length : Int) then (if 0 ≤ x12_22 then (if x12_22 < (x4_2.length : Int) then (if 0 ≤ (Int.tmod (wrap64 (x12_22 + 1)) (x4_2.length : Int)) then (if (Int.tmod (wrap64 (x12_22 + 1)) (x4_2.length : Int)) < (x4_2.length : Int) then ((impl_Triangulate_1.f (rd x4_2 (ji33)) (rd x4_2 x12_22) (rd x4_2 (Int.tmod (wrap64 (x12_22 + 1)) (x4_2.length : Int))) x7_2).bind fun t129 => ((slices_Delete_int_int.f x4_2 x12_22 (wrap64 (x12_22 + 1))).bind fun t132 => (impl_Triangulate.l1 kj22 l0 t132 t129))) else (none)) else (none)) else (none)) else (none)) else (none)) else (none)) = some (r1, r2) := by first | (rw [hji33] at H; exact H) | (simp only [hji33] at H ⊢; exact H)
               by_cases c34 : 0 ≤ (ji33)
               ·rw [if_pos c34] at H; have c34b0 : decide (0 ≤ (ji33)) = true := decide_eq_true c34; clear c34
                by_cases c35 : (ji33) < (x4_2.length : Int)
                ·rw [if_pos c35] at H; have c35b0 : decide ((ji33) < (x4_2.length : Int)) = true := decide_eq_true c35; clear c35
                 by_cases c36 : 0 ≤ x12_22
                 ·rw [if_pos c36] at H; have c36b0 : decide (0 ≤ x12_22) = true := decide_eq_true c36; clear c36
                  by_cases c37 : x12_22 < (x4_2.length : Int)
                  ·rw [if_pos c37] at H; have c37b0 : decide (x12_22 < (x4_2.length : Int)) = true := decide_eq_true c37; clear c37; obtain ⟨ji38, hji38⟩ : ∃ j_ : Int, (Int.tmod (wrap64 (x12_22 + 1)) (x4_2.length : Int)) = j_ := ⟨_, rfl⟩; replace H : (if 0 ≤ (ji38) then (if (ji38) < (x4_2.length : Int) then ((impl_Triangulate_1.f (rd x4_2 (ji33)) (rd x4_2 x12_22) (rd x4_2 (ji38)) x7_2).bind fun t129 => ((slices_Delete_int_int.f x4_2 x12_22 (wrap64 (x12_22 + 1))).bind fun t132 => (impl_Triangulate.l1 kj22 l0 t132 t129))) else (none)) else (none)) = some (r1, r2) := by first | (rw [hji38] at H; exact H) | (simp only [hji38] at H ⊢; exact H)
                   by_cases c39 : 0 ≤ (ji38)
                   ·rw [if_pos c39] at H; have c39b0 : decide (0 ≤ (ji38)) = true := decide_eq_true c39; clear c39
                    by_cases c40 : (ji38) < (x4_2.length : Int)
                    ·rw [if_pos c40] at H; have c40b0 : decide ((ji38) < (x4_2.length : Int)) = true := decide_eq_true c40; clear c40; replace H := Option.bind_eq_some_iff.mp H; obtain ⟨t129, A410, H⟩ := H; replace H : ((slices_Delete_int_int.f x4_2 x12_22 (wrap64 (x12_22 + 1))).bind fun t132 => (impl_Triangulate.l1 kj22 l0 t132 t129)) = some (r1, r2) := H; have A41 := Ak A410; clear A410; replace H := Option.bind_eq_some_iff.mp H; obtain ⟨t132, A420, H⟩ := H; replace H : (impl_Triangulate.l1 kj22 l0 t132 t129) = some (r1, r2) := H; have A42 := Ak A420; clear A420; have H' := Ak H; clear H
                     try go_wp2
                     have n0_ := Ak (Kd.R_drew HO_4.out); have n1_ := Ak (Tri.drew HO_7.out); have n2_ := Ak (below_drew1 HB.out); clear HO_4 HO_7 HB; have HO_4 := n0_; have HO_7 := n1_; have HB := n2_; clear n0_ n1_ n2_; have p126 : 0 ≤ ((ji33) : Int) := of_decide_eq_true (by first | (with_reducible assumption) | assumption); have q126 : (ji33) < (x4_2.length : Int) := of_decide_eq_true (by first | (with_reducible assumption) | assumption); obtain ⟨ad126, e126, hx126_0⟩ := Kd.at_int (Kd.R_reads' HO_4.out).2.2 (ji33) p126 q126; cases e126; replace p126 := eq_true p126; replace q126 := eq_true q126; have p127 : 0 ≤ (x12_22 : Int) := of_decide_eq_true (by first | (with_reducible assumption) | assumption); have q127 : x12_22 < (x4_2.length : Int) := of_decide_eq_true (by first | (with_reducible assumption) | assumption); obtain ⟨ad127, e127, hx127_0⟩ := Kd.at_int (Kd.R_reads' HO_4.out).2.2 x12_22 p127 q127; obtain rfl : ad126 = ad127 := (by injection e127); replace p127 := eq_true p127; replace q127 := eq_true q127; have p128 : 0 ≤ ((ji38) : Int) := of_decide_eq_true (by first | (with_reducible assumption) | assumption); have q128 : (ji38) < (x4_2.length : Int) := of_decide_eq_true (by first | (with_reducible assumption) | assumption); obtain ⟨ad128, e128, hx128_0⟩ := Kd.at_int (Kd.R_reads' HO_4.out).2.2 (ji38) p128 q128; obtain rfl : ad126 = ad128 := (by injection e128); replace p128 := eq_true p128; replace q128 := eq_true q128; refine start_ (n := 22) (S := fun w' => w'.cell? (ad126.add ((ji33)).toNat) = some (.int .i64 (rd x4_2 (ji33))) ∧ w'.cell? (ad126.add (x12_22).toNat) = some (.int .i64 (rd x4_2 x12_22)) ∧ w'.cell? (ad126.add ((ji38)).toNat) = some (.int .i64 (rd x4_2 (ji38)))) (ds := []) #[F,F,F,F,F,F,F,F,F,F,F,F,F,F,F,F,F,F,F,F,F,F] (by kernel_rfl) rfl rfl ⟨hx126_0, hx127_0, hx128_0⟩ (fun hHeld => ?_); refine with_tabW impl_Triangulate.tab24 impl_Triangulate.bits24 (fun HT_ HW_ => ?_); generalize wc.drew = w43 at HO_4 HO_7 HB hx126_0 hx127_0 hx128_0 hHeld ⊢; refine pure_ (i := 0) (N := some 63) (v := ?_) (a' := ?_) #[T,F,F,F,F,F,F,F,F,F,F,F,F,F,F,F,F,F,F,F,F,F] rfl rfl (any_of HT_.out (by kernel_rfl)) (fun _ _ _ h => h) (Or.inl ⟨by rfl, ?_⟩) ?_ ?_; rotate_left
                     ·intro w'; go_simp; with_reducible rfl
                     rotate_left
                     ·simp only [Act.put, sA, sB, sC, sD, sE]; rfl
                     refine pure_ (i := 1) (N := some 64) (v := ?_) (a' := ?_) #[T,T,F,F,F,F,F,F,F,F,F,F,F,F,F,F,F,F,F,F,F,F] rfl rfl (any_of HT_.out (by kernel_rfl)) (fun _ _ _ h => h) (Or.inl ⟨by rfl, ?_⟩) ?_ ?_; rotate_left
                     ·intro w'; go_simp; with_reducible rfl
                     rotate_left
                     ·simp only [Act.put, sA, sB, sC, sD, sE]; rfl
                     refine pure_ (i := 2) (N := some 65) (v := ?_) (a' := ?_) #[T,T,T,F,F,F,F,F,F,F,F,F,F,F,F,F,F,F,F,F,F,F] rfl rfl (any_of HT_.out (by kernel_rfl)) (fun _ _ _ h => h) (Or.inl ⟨by rfl, ?_⟩) ?_ ?_; rotate_left
                     ·intro w'; go_simp; with_reducible rfl
                     rotate_left
                     ·simp only [Act.put, sA, sB, sC, sD, sE]; rfl
                     refine pure_ (i := 3) (N := some 66) (v := ?_) (a' := ?_) #[T,T,T,T,F,F,F,F,F,F,F,F,F,F,F,F,F,F,F,F,F,F] rfl rfl (any_of HT_.out (by kernel_rfl)) (fun _ _ _ h => h) (Or.inl ⟨by rfl, ?_⟩) ?_ ?_; rotate_left
                     ·intro w'; go_simp; with_reducible rfl
                     rotate_left
                     ·simp only [Act.put, sA, sB, sC, sD, sE]; rfl
                     refine pure_ (i := 4) (N := some 67) (v := ?_) (a' := ?_) #[T,T,T,T,T,F,F,F,F,F,F,F,F,F,F,F,F,F,F,F,F,F] rfl rfl (any_of HT_.out (by kernel_rfl)) (fun _ _ _ h => h) (Or.inl ⟨by rfl, ?_⟩) ?_ ?_; rotate_left
                     ·intro w'; go_simp; with_reducible rfl
                     rotate_left
                     ·simp only [Act.put, sA, sB, sC, sD, sE]; rfl
                     refine pure_ (i := 5) (N := some 68) (v := ?_) (a' := ?_) #[T,T,T,T,T,T,F,F,F,F,F,F,F,F,F,F,F,F,F,F,F,F] rfl rfl (any_of HT_.out (by kernel_rfl)) (fun _ _ _ h => h) (Or.inl ⟨by rfl, ?_⟩) ?_ ?_; rotate_left
                     ·intro w'; go_simp; with_reducible rfl
                     rotate_left
                     ·simp only [Act.put, sA, sB, sC, sD, sE]; rfl
                     refine pure_ (i := 6) (N := some 69) (v := ?_) (a' := ?_) #[T,T,T,T,T,T,T,F,F,F,F,F,F,F,F,F,F,F,F,F,F,F] rfl rfl (any_of HT_.out (by kernel_rfl)) (fun _ _ _ h => h) (Or.inl ⟨by rfl, ?_⟩) ?_ ?_; rotate_left
                     ·intro w'; go_simp; with_reducible rfl
                     rotate_left
                     ·simp only [Act.put, sA, sB, sC, sD, sE]; rfl
                     refine pure_ (i := 7) (N := some 70) (v := ?_) (a' := ?_) #[T,T,T,T,T,T,T,T,F,F,F,F,F,F,F,F,F,F,F,F,F,F] rfl rfl (any_of HT_.out (by kernel_rfl)) (fun _ _ _ h => h) (Or.inl ⟨by rfl, ?_⟩) ?_ ?_; rotate_left
                     ·intro w'; go_simp; with_reducible rfl
                     rotate_left
                     ·simp only [Act.put, sA, sB, sC, sD, sE]; rfl
                     refine pure_ (i := 8) (N := some 71) (v := ?_) (a' := ?_) #[T,T,T,T,T,T,T,T,T,F,F,F,F,F,F,F,F,F,F,F,F,F] rfl rfl (any_of HT_.out (by kernel_rfl)) (fun _ _ _ h => h) (Or.inl ⟨by rfl, ?_⟩) ?_ ?_; rotate_left
                     ·intro w'; go_simp; with_reducible rfl
                     rotate_left
                     ·simp only [Act.put, sA, sB, sC, sD, sE]; rfl
                     refine pure_ (i := 10) (N := some 73) (v := ?_) (a' := ?_) #[T,T,T,T,T,T,T,T,T,F,T,F,F,F,F,F,F,F,F,F,F,F] rfl rfl (any_of HT_.out (by kernel_rfl)) (fun _ _ _ h => h) (Or.inl ⟨by rfl, ?_⟩) ?_ ?_; rotate_left
                     ·intro w'; go_simp; with_reducible rfl
                     rotate_left
                     ·simp only [Act.put, sA, sB, sC, sD, sE]; rfl
                     refine pure_ (i := 11) (N := some 74) (v := ?_) (a' := ?_) #[T,T,T,T,T,T,T,T,T,F,T,T,F,F,F,F,F,F,F,F,F,F] rfl rfl (any_of HT_.out (by kernel_rfl)) (fun _ _ _ h => h) (Or.inl ⟨by rfl, ?_⟩) ?_ ?_; rotate_left
                     ·intro w'; go_simp; with_reducible rfl
                     rotate_left
                     ·simp only [Act.put, sA, sB, sC, sD, sE]; rfl
                     refine pure_ (i := 12) (N := some 75) (v := ?_) (a' := ?_) #[T,T,T,T,T,T,T,T,T,F,T,T,T,F,F,F,F,F,F,F,F,F] rfl rfl (any_of HT_.out (by kernel_rfl)) (fun _ _ _ h => h) (Or.inl ⟨by rfl, ?_⟩) ?_ ?_; rotate_left
                     ·intro w'; go_simp; with_reducible rfl
                     rotate_left
                     ·simp only [Act.put, sA, sB, sC, sD, sE]; rfl
                     refine pure_ (i := 14) (N := some 77) (v := ?_) (a' := ?_) #[T,T,T,T,T,T,T,T,T,F,T,T,T,F,T,F,F,F,F,F,F,F] rfl rfl (any_of HT_.out (by kernel_rfl)) (fun _ _ _ h => h) (Or.inl ⟨by rfl, ?_⟩) ?_ ?_; rotate_left
                     ·intro w'; go_simp; with_reducible rfl
                     rotate_left
                     ·simp only [Act.put, sA, sB, sC, sD, sE]; rfl
                     refine pure_ (i := 15) (N := some 78) (v := ?_) (a' := ?_) #[T,T,T,T,T,T,T,T,T,F,T,T,T,F,T,T,F,F,F,F,F,F] rfl rfl (any_of HT_.out (by kernel_rfl)) (fun _ _ _ h => h) (Or.inl ⟨by rfl, ?_⟩) ?_ ?_; rotate_left
                     ·intro w'; go_simp; with_reducible rfl
                     rotate_left
                     ·simp only [Act.put, sA, sB, sC, sD, sE]; rfl
                     refine pure_ (i := 16) (N := some 79) (v := ?_) (a' := ?_) #[T,T,T,T,T,T,T,T,T,F,T,T,T,F,T,T,T,F,F,F,F,F] rfl rfl (any_of HT_.out (by kernel_rfl)) (fun _ _ _ h => h) (Or.inl ⟨by rfl, ?_⟩) ?_ ?_; rotate_left
                     ·intro w'; go_simp; with_reducible rfl
                     rotate_left
                     ·simp only [Act.put, sA, sB, sC, sD, sE]; rfl
                     refine pure_ (i := 17) (N := some 80) (v := ?_) (a' := ?_) #[T,T,T,T,T,T,T,T,T,F,T,T,T,F,T,T,T,T,F,F,F,F] rfl rfl (any_of HT_.out (by kernel_rfl)) (fun _ _ _ h => h) (Or.inl ⟨by rfl, ?_⟩) ?_ ?_; rotate_left
                     ·intro w'; go_simp; with_reducible rfl
                     rotate_left
                     ·simp only [Act.put, sA, sB, sC, sD, sE]; rfl
                     refine pure_ (i := 18) (N := some 81) (v := ?_) (a' := ?_) #[T,T,T,T,T,T,T,T,T,F,T,T,T,F,T,T,T,T,T,F,F,F] rfl rfl (any_of HT_.out (by kernel_rfl)) (fun _ _ _ h => h) (Or.inl ⟨by rfl, ?_⟩) ?_ ?_; rotate_left
                     ·intro w'; go_simp; with_reducible rfl
                     rotate_left
                     ·simp only [Act.put, sA, sB, sC, sD, sE]; rfl
                     refine pure_ (i := 19) (N := some 82) (v := ?_) (a' := ?_) #[T,T,T,T,T,T,T,T,T,F,T,T,T,F,T,T,T,T,T,T,F,F] rfl rfl (any_of HT_.out (by kernel_rfl)) (fun _ _ _ h => h) (Or.inl ⟨by rfl, ?_⟩) ?_ ?_; rotate_left
                     ·intro w'; go_simp; with_reducible rfl
                     rotate_left
                     ·simp only [Act.put, sA, sB, sC, sD, sE]; rfl
                     refine take_ (i := 9) (N := some 72) (v := ?_) (a' := ?_) #[T,T,T,T,T,T,T,T,T,T,T,T,T,F,T,T,T,T,T,T,F,F] rfl rfl (take_ofW HT_.out HW_.out (by kernel_rfl)) (fun _ _ _ h => h) (Or.inl ⟨by rfl, ?_⟩) hHeld ?_ ?_; rotate_left
                     ·rintro w' ⟨s0, s1, s2⟩; go_simp; with_reducible rfl
                     rotate_left
                     ·simp only [Act.put, sA, sB, sC, sD, sE]; rfl
                     refine take_ (i := 13) (N := some 76) (v := ?_) (a' := ?_) #[T,T,T,T,T,T,T,T,T,T,T,T,T,T,T,T,T,T,T,T,F,F] rfl rfl (take_ofW HT_.out HW_.out (by kernel_rfl)) (fun _ _ _ h => h) (Or.inl ⟨by rfl, ?_⟩) hHeld ?_ ?_; rotate_left
                     ·rintro w' ⟨s0, s1, s2⟩; go_simp; with_reducible rfl
                     rotate_left
                     ·simp only [Act.put, sA, sB, sC, sD, sE]; rfl
                     refine take_ (i := 20) (N := some 83) (v := ?_) (a' := ?_) #[T,T,T,T,T,T,T,T,T,T,T,T,T,T,T,T,T,T,T,T,T,F] rfl rfl (take_ofW HT_.out HW_.out (by kernel_rfl)) (fun _ _ _ h => h) (Or.inl ⟨by rfl, ?_⟩) hHeld ?_ ?_; rotate_left
                     ·rintro w' ⟨s0, s1, s2⟩; go_simp; with_reducible rfl
                     rotate_left
                     ·simp only [Act.put, sA, sB, sC, sD, sE]; rfl
                     refine one_ (i := 21) (N := some 84) #[T,T,T,T,T,T,T,T,T,T,T,T,T,T,T,T,T,T,T,T,T,T] rfl rfl (one_of HT_.out (by kernel_rfl)) (by decide) (fun K hK => ?_); refine goesV_ (x := .tmp 63) (cap := #[.pointer (some ⟨go, 0, none⟩)]) Try.func89 (by kernel_rfl) rfl #[.int .i64 (rd x4_2 (ji33)), .int .i64 (rd x4_2 x12_22), .int .i64 (rd x4_2 (ji38))] #[.int .i64 (rd x4_2 (ji33)), .int .i64 (rd x4_2 x12_22), .int .i64 (rd x4_2 (ji38)), .pointer (some ⟨go, 0, none⟩)] (by rfl) rfl rfl rfl (by (try simp only [List.map_toArray, List.map_cons, List.map_nil]); first | done | (simp only [hji33, hji38]; rfl) | rfl | (simp only [List.length_drop, List.length_take]; rfl)) (by rfl) ?_; refine (Tri.calls HO_7.out (Kd.R_lt HO_4.out) (below_size HB.out) A41.out).mono ?_; rintro e w45 ⟨rfl, hT, hb, hkp⟩; have HS0_ := cell_kept hHeld.1 (add_block _ _) HO_4.out hkp; have HS1_ := cell_kept hHeld.2.1 (add_block _ _) HO_4.out hkp; have HS2_ := cell_kept hHeld.2.2 (add_block _ _) HO_4.out hkp; refine ⟨_, rfl, ?_⟩; have n0_ := Ak (ints_kept HO_4.out hkp); have n1_ := Ak hT; have n3_ := Ak (HB.out.trans hb); clear HO_4 HO_7 HB; have HO_4 := n0_; have HO_7 := n1_; have HB := n3_; clear n0_ n1_ n3_ hb hT hkp; refine hK.out _ _ ⟨HS0_, HS1_, HS2_⟩ (fun hHeld => ?_); clear hK K; refine norm_ (a' := ?_) ?_ ?_; rotate_left
                     ·show Act.put _ (some 84) _ = _; simp only [Act.put, sA, sB, sC, sD, sE]; rfl
                     refine done_ (done_of HT_.out (by kernel_rfl)) ?_; obtain ⟨g4, cp4, e4_, hg4b, hg4l, cells4, hc4⟩ := Kd.R_form HO_4.out (by have := of_eq_true p127; have := of_eq_true q127; omega)
                     injection e4_ with f1_ f2_ f3_
                     injection f1_ with f1_
                     subst f1_; subst f3_
                     try go_wp2_with (first | ((with_reducible refine gate_callee (f := 92) rfl ?_); refine goesL_ (some 89) rfl rfl Try.func92 (by kernel_rfl) rfl #[.slice (some ⟨g4, 0, none⟩) x4_2.length co13, .int .i64 x12_22, .int .i64 (wrap64 (x12_22 + 1))] rfl (by (try simp only [List.map_toArray, List.map_cons, List.map_nil]); first | done | rfl | (simp only [List.length_drop, List.length_take]; rfl)) ?_; (refine (delete_at HO_4.out (of_eq_true p127) (of_eq_true q127) A42.out).mono ?_); rintro e w46 ⟨rfl, ho0, hg0⟩; refine ⟨_, rfl, ?_⟩; have n0_ := Ak ho0; have n1_ := Ak (Tri.del HO_7.out hc4 hg0); have n2_ := Ak (below_own HB.out hg0 hg4b (below_size HB.out)); clear HO_4 HO_7 HB; have HO_4 := n0_; have HO_7 := n1_; have HB := n2_; clear n0_ n1_ n2_ ho0 hg0))
                     go_roundg kj22
                     case measure => have := HK1.out; have := HK2.out; have := HK3.out; have := HJ22.out; omega
                     case rel => exact ⟨(t132), (t129), H', ⟨by have := HK1.out; have := HK2.out; have := HK3.out; have := HJ22.out; omega⟩, ⟨by (with_reducible repeat (first | apply Kd.R_alloc | apply Kd.R_drewN | apply Kd.R_drew)); exact HO_4.out⟩, ⟨by (with_reducible repeat (first | apply Tri.alloc | apply Tri.drewN | apply Tri.drew)); exact HO_7.out⟩, ⟨by repeat (first | (with_reducible first | exact HB.out | apply bA | apply bD | apply bE) | exact HB.out)⟩⟩
                    ·rw [if_neg c40] at H; exact absurd H (by simp)
                   ·rw [if_neg c39] at H; exact absurd H (by simp)
                  ·rw [if_neg c37] at H; exact absurd H (by simp)
                 ·rw [if_neg c36] at H; exact absurd H (by simp)
                ·rw [if_neg c35] at H; exact absurd H (by simp)
               ·rw [if_neg c34] at H; exact absurd H (by simp)
       ·rw [if_neg c12] at H; have c12b0 : decide (3 < (x4_2.length : Int)) = false := decide_eq_false c12; have c12b1 : decide (3 < x4_2.length) = false := decide_eq_false (by omega); clear c12
        by_cases c47 : 0 < (x4_2.length : Int)
        ·rw [if_pos c47] at H; have c47b0 : decide (0 < (x4_2.length : Int)) = true := decide_eq_true c47; have c47b1 : decide (0 < x4_2.length) = true := decide_eq_true (by omega); clear c47
         by_cases c48 : 1 < (x4_2.length : Int)
         ·rw [if_pos c48] at H; have c48b0 : decide (1 < (x4_2.length : Int)) = true := decide_eq_true c48; have c48b1 : decide (1 < x4_2.length) = true := decide_eq_true (by omega); clear c48
          by_cases c49 : 2 < (x4_2.length : Int)
          ·rw [if_pos c49] at H; have c49b0 : decide (2 < (x4_2.length : Int)) = true := decide_eq_true c49; have c49b1 : decide (2 < x4_2.length) = true := decide_eq_true (by omega); clear c49; replace H := Option.bind_eq_some_iff.mp H; obtain ⟨t114, A500, H⟩ := H; replace H : (some (t114, true)) = some (r1, r2) := H; have A50 := Ak A500; clear A500; simp only [Option.some.injEq, Prod.mk.injEq] at H; obtain ⟨rfl, rfl⟩ := H; obtain ⟨Ao51, co51, eo51⟩ := Kd.R_slice HO_4.out; subst eo51
           try go_wp2
           have n0_ := Ak (Kd.R_drew HO_4.out); have n1_ := Ak (Tri.drew HO_7.out); have n2_ := Ak (below_drew1 HB.out); clear HO_4 HO_7 HB; have HO_4 := n0_; have HO_7 := n1_; have HB := n2_; clear n0_ n1_ n2_; have p111 : 0 ≤ (0 : Int) := (by omega); have q111 : 0 < (x4_2.length : Int) := of_decide_eq_true (by first | (with_reducible assumption) | assumption); obtain ⟨ad111, e111, hx111_0⟩ := Kd.at_int (Kd.R_reads' HO_4.out).2.2 0 p111 q111; cases e111; have qi111 : (0 < x4_2.length) = True := eq_true (by omega); (try rw [show ((0 : Int)).toNat = 0 from rfl] at hx111_0); (try rw [Addr.add_zero'] at hx111_0); replace p111 := eq_true p111; replace q111 := eq_true q111; have p112 : 0 ≤ (1 : Int) := (by omega); have q112 : 1 < (x4_2.length : Int) := of_decide_eq_true (by first | (with_reducible assumption) | assumption); obtain ⟨ad112, e112, hx112_0⟩ := Kd.at_int (Kd.R_reads' HO_4.out).2.2 1 p112 q112; obtain rfl : ad111 = ad112 := (by injection e112); (try simp only [show (1 : Int).toNat = 1 from rfl, Nat.reduceMul, Nat.reduceEqDiff, Go.Addr.add, ↓reduceIte] at hx112_0); have qi112 : (1 < x4_2.length) = True := eq_true (by omega); (try rw [show ((1 : Int)).toNat = 1 from rfl] at hx112_0); replace p112 := eq_true p112; replace q112 := eq_true q112; have p113 : 0 ≤ (2 : Int) := (by omega); have q113 : 2 < (x4_2.length : Int) := of_decide_eq_true (by first | (with_reducible assumption) | assumption); obtain ⟨ad113, e113, hx113_0⟩ := Kd.at_int (Kd.R_reads' HO_4.out).2.2 2 p113 q113; obtain rfl : ad111 = ad113 := (by injection e113); (try simp only [show (2 : Int).toNat = 2 from rfl, Nat.reduceMul, Nat.reduceEqDiff, Go.Addr.add, ↓reduceIte] at hx113_0); have qi113 : (2 < x4_2.length) = True := eq_true (by omega); (try rw [show ((2 : Int)).toNat = 2 from rfl] at hx113_0); replace p113 := eq_true p113; replace q113 := eq_true q113; refine start_ (n := 11) (S := fun w' => w'.cell? ad111 = some (.int .i64 (rd x4_2 0)) ∧ w'.cell? ⟨ad111.block, ad111.off + 1, none⟩ = some (.int .i64 (rd x4_2 1)) ∧ w'.cell? ⟨ad111.block, ad111.off + 2, none⟩ = some (.int .i64 (rd x4_2 2))) (ds := []) #[F,F,F,F,F,F,F,F,F,F,F] (by kernel_rfl) rfl rfl ⟨hx111_0, hx112_0, hx113_0⟩ (fun hHeld => ?_); refine with_tabW impl_Triangulate.tab26 impl_Triangulate.bits26 (fun HT_ HW_ => ?_); generalize wr.drew = w52 at HO_4 HO_7 HB hx111_0 hx112_0 hx113_0 hHeld ⊢; refine pure_ (i := 0) (N := some 90) (v := ?_) (a' := ?_) #[T,F,F,F,F,F,F,F,F,F,F] rfl rfl (any_of HT_.out (by kernel_rfl)) (fun _ _ _ h => h) (Or.inl ⟨by rfl, ?_⟩) ?_ ?_; rotate_left
           ·intro w'; go_simp; with_reducible rfl
           rotate_left
           ·simp only [Act.put, sA, sB, sC, sD, sE]; rfl
           refine pure_ (i := 1) (N := some 91) (v := ?_) (a' := ?_) #[T,T,F,F,F,F,F,F,F,F,F] rfl rfl (any_of HT_.out (by kernel_rfl)) (fun _ _ _ h => h) (Or.inl ⟨by rfl, ?_⟩) ?_ ?_; rotate_left
           ·intro w'; go_simp; with_reducible rfl
           rotate_left
           ·simp only [Act.put, sA, sB, sC, sD, sE]; rfl
           refine pure_ (i := 2) (N := some 92) (v := ?_) (a' := ?_) #[T,T,T,F,F,F,F,F,F,F,F] rfl rfl (any_of HT_.out (by kernel_rfl)) (fun _ _ _ h => h) (Or.inl ⟨by rfl, ?_⟩) ?_ ?_; rotate_left
           ·intro w'; go_simp; with_reducible rfl
           rotate_left
           ·simp only [Act.put, sA, sB, sC, sD, sE]; rfl
           refine pure_ (i := 4) (N := some 94) (v := ?_) (a' := ?_) #[T,T,T,F,T,F,F,F,F,F,F] rfl rfl (any_of HT_.out (by kernel_rfl)) (fun _ _ _ h => h) (Or.inl ⟨by rfl, ?_⟩) ?_ ?_; rotate_left
           ·intro w'; go_simp; with_reducible rfl
           rotate_left
           ·simp only [Act.put, sA, sB, sC, sD, sE]; rfl
           refine pure_ (i := 5) (N := some 95) (v := ?_) (a' := ?_) #[T,T,T,F,T,T,F,F,F,F,F] rfl rfl (any_of HT_.out (by kernel_rfl)) (fun _ _ _ h => h) (Or.inl ⟨by rfl, ?_⟩) ?_ ?_; rotate_left
           ·intro w'; go_simp; with_reducible rfl
           rotate_left
           ·simp only [Act.put, sA, sB, sC, sD, sE]; rfl
           refine pure_ (i := 7) (N := some 97) (v := ?_) (a' := ?_) #[T,T,T,F,T,T,F,T,F,F,F] rfl rfl (any_of HT_.out (by kernel_rfl)) (fun _ _ _ h => h) (Or.inl ⟨by rfl, ?_⟩) ?_ ?_; rotate_left
           ·intro w'; go_simp; with_reducible rfl
           rotate_left
           ·simp only [Act.put, sA, sB, sC, sD, sE]; rfl
           refine pure_ (i := 8) (N := some 98) (v := ?_) (a' := ?_) #[T,T,T,F,T,T,F,T,T,F,F] rfl rfl (any_of HT_.out (by kernel_rfl)) (fun _ _ _ h => h) (Or.inl ⟨by rfl, ?_⟩) ?_ ?_; rotate_left
           ·intro w'; go_simp; with_reducible rfl
           rotate_left
           ·simp only [Act.put, sA, sB, sC, sD, sE]; rfl
           refine take_ (i := 3) (N := some 93) (v := ?_) (a' := ?_) #[T,T,T,T,T,T,F,T,T,F,F] rfl rfl (take_ofW HT_.out HW_.out (by kernel_rfl)) (fun _ _ _ h => h) (Or.inl ⟨by rfl, ?_⟩) hHeld ?_ ?_; rotate_left
           ·rintro w' ⟨s0, s1, s2⟩; go_simp; with_reducible rfl
           rotate_left
           ·simp only [Act.put, sA, sB, sC, sD, sE]; rfl
           refine take_ (i := 6) (N := some 96) (v := ?_) (a' := ?_) #[T,T,T,T,T,T,T,T,T,F,F] rfl rfl (take_ofW HT_.out HW_.out (by kernel_rfl)) (fun _ _ _ h => h) (Or.inl ⟨by rfl, ?_⟩) hHeld ?_ ?_; rotate_left
           ·rintro w' ⟨s0, s1, s2⟩; go_simp; with_reducible rfl
           rotate_left
           ·simp only [Act.put, sA, sB, sC, sD, sE]; rfl
           refine take_ (i := 9) (N := some 99) (v := ?_) (a' := ?_) #[T,T,T,T,T,T,T,T,T,T,F] rfl rfl (take_ofW HT_.out HW_.out (by kernel_rfl)) (fun _ _ _ h => h) (Or.inl ⟨by rfl, ?_⟩) hHeld ?_ ?_; rotate_left
           ·rintro w' ⟨s0, s1, s2⟩; go_simp; with_reducible rfl
           rotate_left
           ·simp only [Act.put, sA, sB, sC, sD, sE]; rfl
           refine one_ (i := 10) (N := some 100) #[T,T,T,T,T,T,T,T,T,T,T] rfl rfl (one_of HT_.out (by kernel_rfl)) (by decide) (fun K hK => ?_); refine goesV_ (x := .tmp 90) (cap := #[.pointer (some ⟨go, 0, none⟩)]) Try.func89 (by kernel_rfl) rfl #[.int .i64 (rd x4_2 0), .int .i64 (rd x4_2 1), .int .i64 (rd x4_2 2)] #[.int .i64 (rd x4_2 0), .int .i64 (rd x4_2 1), .int .i64 (rd x4_2 2), .pointer (some ⟨go, 0, none⟩)] (by rfl) rfl rfl rfl (by (try simp only [List.map_toArray, List.map_cons, List.map_nil]); first | done | rfl | (simp only [List.length_drop, List.length_take]; rfl)) (by rfl) ?_; refine (Tri.calls HO_7.out (Kd.R_lt HO_4.out) (below_size HB.out) A50.out).mono ?_; rintro e w54 ⟨rfl, hT, hb, hkp⟩; have HS0_ := cell_kept hHeld.1 (ad := ad111) rfl HO_4.out hkp; have HS1_ := cell_kept hHeld.2.1 (ad := ad111) rfl HO_4.out hkp; have HS2_ := cell_kept hHeld.2.2 (ad := ad111) rfl HO_4.out hkp; refine ⟨_, rfl, ?_⟩; have n0_ := Ak (ints_kept HO_4.out hkp); have n1_ := Ak hT; have n3_ := Ak (HB.out.trans hb); clear HO_4 HO_7 HB; have HO_4 := n0_; have HO_7 := n1_; have HB := n3_; clear n0_ n1_ n3_ hb hT hkp; refine hK.out _ _ ⟨HS0_, HS1_, HS2_⟩ (fun hHeld => ?_); clear hK K; refine norm_ (a' := ?_) ?_ ?_; rotate_left
           ·show Act.put _ (some 100) _ = _; simp only [Act.put, sA, sB, sC, sD, sE]; rfl
           refine done_ (done_of HT_.out (by kernel_rfl)) ?_; obtain ⟨_, vo, hgo, hso⟩ := HO_7.out; obtain ⟨Av, cv, ev⟩ := Kd.S_slice hso; subst ev; have hco : w54.cell? ⟨go, 0, none⟩ = some (.slice Av t114.length cv) := (blk_cell hgo 0).trans rfl
           go_wp2
           go_ret2
           exact ⟨_, by first | rfl | (simp [*, errW_none, errW_some] <;> rfl), by (with_reducible repeat (first | apply Kd.S_alloc | apply Kd.S_drewN | apply Kd.S_drew)); exact Kd.S_mono hso (fun _ hk => trivial), by repeat (first | (with_reducible first | exact HB.out | apply bA | apply bD | apply bE) | exact HB.out)⟩
          ·rw [if_neg c49] at H; exact absurd H (by simp)
         ·rw [if_neg c48] at H; exact absurd H (by simp)
        ·rw [if_neg c47] at H; exact absurd H (by simp)
 ·replace c3 := Bool.eq_false_iff.mpr c3; subst c3; have H1 : (some (([] : List (List Int)), false)) = some (r1, r2) := by rw [if_neg (show ¬ (false = true) by decide)] at H; exact H
  clear H; have H := H1; clear H1; simp only [Option.some.injEq, Prod.mk.injEq] at H; obtain ⟨rfl, rfl⟩ := H
  go_enter Try.func49, Try.ntmps49
  go_wp2_with (first | ((with_reducible refine gate_callee (f := 13) rfl ?_); refine goesL_ (some 14) rfl rfl Try.func13 (by kernel_rfl) rfl #[.slice A0 l0.length c0] rfl (by (try simp only [List.map_toArray, List.map_cons, List.map_nil]); first | done | rfl | (simp only [List.length_drop, List.length_take]; rfl)) ?_; (with_reducible refine (impl_PolygonOk.calls _ _ l0 false _ ?side1 ?side2 A2.out).mono ?_); (case side1 => repeat (first | exact HR0.out | (with_reducible refine Kd.C_alloc ?_ _) | (with_reducible refine Kd.C_drewN ?_ _) | (with_reducible refine Kd.C_drew ?_))); (case side2 => exact HC0.out); rintro e w55 ⟨rfl, hb⟩; refine ⟨_, rfl, ?_⟩; have n0_ := Ak (below_step (by repeat (first | exact HB.out | apply bA | apply bD | apply bE)) hb); clear HB; have HB := n0_; clear n0_; (try clear hb); (try clear hb2); (try clear hk); (try clear hi)))
  go_ret2
  exact ⟨_, by first | rfl | (simp [*, errW_none, errW_some] <;> rfl), by first | exact Kd.S_nil _ _ _ _ _ | exact Kd.N_nil _ _ _ _ _ | exact Kd.V_nil _ _ _ _ _ | exact Kd.Q_nil _ _ _ _ _ | exact Kd.R_nil _ _ _ _ _, by repeat (first | (with_reducible first | exact HB.out | apply bA | apply bD | apply bE) | exact HB.out)⟩


end Go.Proofs.Ytlccpkggdmngaaa.G
