/- A Go function as a plain Lean function, and the proof that Go's call comes to its answer. No conditions but those in the theorem. Written by gen.py (a program of this session over the kit's print). -/
-- SHRUNK by pack.py
import Derived.Test.YtbhnmofbbnimaaaG0
import Derived.Test.YtbhnmofbbnimaaaF85
import Derived.Test.YtbhnmofbbnimaaaF86
namespace Go.Proofs.Ytbhnmofbbnimaaa.G
open Go.RowKit Go.Proofs.YtbhnmofbbnimaaaW.PrintWords Go.Proofs.YtbhnmofbbnimaaaW.PrintLast Go.Proofs.YtbhnmofbbnimaaaW.PrintMore Go.Proofs.YtbhnmofbbnimaaaW.PrintBits
attribute [local go_sem] max2_int min2_int max_two min_two max_three min_three max_four min_four   -- for this text's walks alone
set_option linter.unusedVariables false
set_option linter.unusedSimpArgs false

/-! ### spec_l04Hull: function 45 -/
def spec_l04Hull.l0 : Nat → List (S44) → List (S44) → List (S44) → Int → Option ((List (S44)))
 | 0, _, _, _, _ => none
 | k + 1, x3, x4, x5, x6 => if x6 ≥ 0 then (if 0 ≤ x6 then (if x6 < (x3.length : Int) then (if x5.length < 8796093022208 then (spec_l04Hull.l0 k x3 x4 (x5 ++ [(⟨(rd_T44 x3 x6).f0, (rd_T44 x3 x6).f1⟩ : S44)]) (wrap64 (x6 - 1))) else (none)) else (none)) else (none)) else ((spec_l04Chain.f k x5).bind fun t114 => ((some (([] : List (S44)) : List (S44))).bind fun y117 => (if 0 ≤ (wrap64 ((x4.length : Int) - 1)) then (if (wrap64 ((x4.length : Int) - 1)) ≤ (x4.length : Int) then ((some (x4.take ((wrap64 ((x4.length : Int) - 1)) : Int).toNat : List (S44))).bind fun y120 => (if y117.length + y120.length < 8796093022208 then ((some (y117 ++ y120 : List (S44))).bind fun y124 => (if 0 ≤ (wrap64 ((t114.length : Int) - 1)) then (if (wrap64 ((t114.length : Int) - 1)) ≤ (t114.length : Int) then ((some (t114.take ((wrap64 ((t114.length : Int) - 1)) : Int).toNat : List (S44))).bind fun y127 => (if y124.length + y127.length < 8796093022208 then (some (y124 ++ y127)) else (none))) else (none)) else (none))) else (none))) else (none)) else (none))))
def spec_l04Hull.f (k : Nat) (l0 : List (S44)) : Option ((List (S44))) := (spec_l04Sort.f k l0).bind fun t101 => (if (t101.length : Int) < 3 then (some ([] : List (S44))) else ((spec_l04Chain.f k t101).bind fun t104 => (spec_l04Hull.l0 k t101 t104 (([] : List (S44))) (wrap64 ((t101.length : Int) - 1)))))
theorem spec_l04Hull.mono_l : ∀ k, (∀ y0 y1 y2 y3, LeO (spec_l04Hull.l0 k y0 y1 y2 y3) (spec_l04Hull.l0 (k + 1) y0 y1 y2 y3))
 | 0 => fun _ _ _ _ r h => by simp [spec_l04Hull.l0] at h
 | k + 1 => by
  have ih0 := spec_l04Hull.mono_l k
  ·intro y0 y1 y2 y3
   unfold spec_l04Hull.l0
   repeat' first
   | (with_reducible exact ih0 _ _ _ _)
   | (with_reducible exact spec_l04Chain.mono _ _)
   | (with_reducible exact spec_l04Sort.mono _ _)
   | (with_reducible exact LeO.refl _)
   | (with_reducible exact LeO.none _)
   | (with_reducible refine LeO.ite ?_ ?_)
   | (with_reducible refine LeO.bind ?_ (fun _ => ?_))
   | exact ih0 _ _ _ _
   | exact spec_l04Chain.mono _ _
   | exact spec_l04Sort.mono _ _
   | exact LeO.none _
   | refine LeO.ite ?_ ?_
   | refine LeO.bind ?_ (fun _ => ?_)
theorem spec_l04Hull.mono : ∀ a0 k, LeO (spec_l04Hull.f k a0) (spec_l04Hull.f (k + 1) a0) := by
 intro a0 k
 have ih0 := spec_l04Hull.mono_l k
 unfold spec_l04Hull.f
 repeat' first
   | (with_reducible exact ih0 _ _ _ _)
   | (with_reducible exact spec_l04Chain.mono _ _)
   | (with_reducible exact spec_l04Sort.mono _ _)
   | (with_reducible exact LeO.refl _)
   | (with_reducible exact LeO.none _)
   | (with_reducible refine LeO.ite ?_ ?_)
   | (with_reducible refine LeO.bind ?_ (fun _ => ?_))
   | exact ih0 _ _ _ _
   | exact spec_l04Chain.mono _ _
   | exact spec_l04Sort.mono _ _
   | exact LeO.none _
   | refine LeO.ite ?_ ?_
   | refine LeO.bind ?_ (fun _ => ?_)
def spec_l04Hull.T11 : Bool × List (List Nat × List Nat) := (true, [([], []), ([], []), ([], []), ([2], [2]), ([3], [3]), ([1, 4], [1, 4]), ([0, 5], [0, 5]), ([], []), ([], []), ([8], [8]), ([9], [9]), ([7, 10], [7, 10]), ([6, 11, 6], [6, 11]), ([12, 12, 0, 1, 2, 3, 4, 5, 6, 7, 8, 9, 10, 11, 12], [12])])
def spec_l04Hull.B11 : List Nat := [0, 0, 0, 4, 12, 30, 63, 0, 0, 256, 768, 1920, 4095, 8191]
theorem spec_l04Hull.tab11 : rtab .any (opsOf Try.f45 11) = spec_l04Hull.T11 := by kernel_rfl
theorem spec_l04Hull.bits11 : waitsOk spec_l04Hull.T11.2 spec_l04Hull.B11 = true := by kernel_rfl
set_option maxHeartbeats 8000000 in
set_option maxRecDepth 100000 in
theorem spec_l04Hull.calls (k : Nat) (A0 : Option Addr) (c0 : Nat) (l0 : List (S44)) (r : List (S44)) (w : World) (hr0 : Kd.C k44 w A0 l0.length l0) (hc0 : l0.length ≤ c0) (h : spec_l04Hull.f k l0 = some r) :
  Calls Try.prog 45 #[.slice A0 l0.length c0] w fun e w' => ∃ v0_ : Value, e = .returned (v0_) ∧ Kd.R k44 44 w' w.heap.size (fun _ => True) v0_ r ∧ Below w.heap.size w w' := by
 have hu44 := Try.underlying44
 have HR0 := Ak hr0
 have HC0 := Ak hc0
 clear hr0 hc0
 have HB := Ak (Below.refl w.heap.size w)
 have H : ((spec_l04Sort.f k l0).bind fun t101 => (if (t101.length : Int) < 3 then (some ([] : List (S44))) else ((spec_l04Chain.f k t101).bind fun t104 => (spec_l04Hull.l0 k t101 t104 (([] : List (S44))) (wrap64 ((t101.length : Int) - 1)))))) = some r := h
 clear h
 replace H := Option.bind_eq_some_iff.mp H
 obtain ⟨t101, A20, H⟩ := H
 replace H : (if (t101.length : Int) < 3 then (some ([] : List (S44))) else ((spec_l04Chain.f k t101).bind fun t104 => (spec_l04Hull.l0 k t101 t104 (([] : List (S44))) (wrap64 ((t101.length : Int) - 1))))) = some r := H
 have A2 := Ak A20
 clear A20
 by_cases c3 : (t101.length : Int) < 3
 ·rw [if_pos c3] at H
  have c3b0 : decide ((t101.length : Int) < 3) = true := decide_eq_true c3
  have c3b1 : decide (t101.length < 3) = true := decide_eq_true (by omega)
  clear c3
  obtain rfl := Option.some.inj H
  go_enter Try.func45, Try.ntmps45
  go_wp2_with (first | ((with_reducible refine gate_callee (f := 85) rfl ?_); refine goesL_ (some 9) rfl rfl Try.func85 (by kernel_rfl) rfl #[.slice A0 l0.length c0] rfl (by (try simp only [List.map_toArray, List.map_cons, List.map_nil]); first | done | rfl | (simp only [List.length_drop, List.length_take]; rfl)) ?_; (with_reducible refine (spec_l04Sort.calls k _ _ l0 t101 _ ?side1 ?side2 A2.out).mono ?_); (case side1 => repeat (first | exact HR0.out | (with_reducible refine Kd.C_alloc ?_ _) | (with_reducible refine Kd.C_drewN ?_ _) | (with_reducible refine Kd.C_drew ?_))); (case side2 => exact HC0.out); rintro e w4 ⟨v102, rfl, ho0, hb⟩; refine ⟨_, rfl, ?_⟩; have n0_ := Ak (Kd.R_lower ho0 (below_size (by repeat (first | exact HB.out | apply bA | apply bD | apply bE)))); have n1_ := Ak (below_step (by repeat (first | exact HB.out | apply bA | apply bD | apply bE)) hb); clear HB; have HO103 := n0_; have HB := n1_; clear n0_ n1_; (try clear hb); (try clear hb2); (try clear hk); (try clear hi); (try clear ho0); obtain ⟨Ao5, co5, eo5⟩ := Kd.R_slice HO103.out; subst eo5))
  go_ret
  exact ⟨_, by first | rfl | (simp [*, errW_none, errW_some] <;> rfl), by first | exact Kd.R_nil _ _ _ _ _ | exact Kd.N_nil _ _ _ _ _ | exact Kd.V_nil _ _ _ _ _ | exact Kd.Q_nil _ _ _ _ _ | exact Kd.S_nil _ _ _ _ _, by repeat (first | (with_reducible first | exact HB.out | apply bA | apply bD | apply bE) | exact HB.out)⟩
 ·rw [if_neg c3] at H
  have c3b0 : decide ((t101.length : Int) < 3) = false := decide_eq_false c3
  have c3b1 : decide (t101.length < 3) = false := decide_eq_false (by omega)
  clear c3
  replace H := Option.bind_eq_some_iff.mp H
  obtain ⟨t104, A60, H⟩ := H
  replace H : (spec_l04Hull.l0 k t101 t104 (([] : List (S44))) (wrap64 ((t101.length : Int) - 1))) = some r := H
  have A6 := Ak A60
  clear A60
  obtain ⟨y107, hy107⟩ : ∃ y_ : List (S44), y_ = (([] : List (S44))) := ⟨_, rfl⟩
  replace H : (spec_l04Hull.l0 k t101 t104 y107 (wrap64 ((t101.length : Int) - 1))) = some r := by first | (rw [hy107]; exact H) | exact H
  have Ny107 := Ak hy107
  clear hy107
  have H' := Ak H
  clear H
  go_enter Try.func45, Try.ntmps45
  go_wp2_with (first | ((with_reducible refine gate_callee (f := 85) rfl ?_); refine goesL_ (some 9) rfl rfl Try.func85 (by kernel_rfl) rfl #[.slice A0 l0.length c0] rfl (by (try simp only [List.map_toArray, List.map_cons, List.map_nil]); first | done | rfl | (simp only [List.length_drop, List.length_take]; rfl)) ?_; (with_reducible refine (spec_l04Sort.calls k _ _ l0 t101 _ ?side1 ?side2 A2.out).mono ?_); (case side1 => repeat (first | exact HR0.out | (with_reducible refine Kd.C_alloc ?_ _) | (with_reducible refine Kd.C_drewN ?_ _) | (with_reducible refine Kd.C_drew ?_))); (case side2 => exact HC0.out); rintro e w7 ⟨v102, rfl, ho0, hb⟩; refine ⟨_, rfl, ?_⟩; have n0_ := Ak (Kd.R_lower ho0 (below_size (by repeat (first | exact HB.out | apply bA | apply bD | apply bE)))); have n1_ := Ak (below_step (by repeat (first | exact HB.out | apply bA | apply bD | apply bE)) hb); clear HB; have HO103 := n0_; have HB := n1_; clear n0_ n1_; (try clear hb); (try clear hb2); (try clear hk); (try clear hi); (try clear ho0); obtain ⟨Ao8, co8, eo8⟩ := Kd.R_slice HO103.out; subst eo8) | ((with_reducible refine gate_callee (f := 86) rfl ?_); refine goesL_ (some 14) rfl rfl Try.func86 (by kernel_rfl) rfl #[.slice Ao8 t101.length co8] rfl (by (try simp only [List.map_toArray, List.map_cons, List.map_nil]); first | done | rfl | (simp only [List.length_drop, List.length_take]; rfl)) ?_; (with_reducible refine (spec_l04Chain.calls k _ _ t101 t104 _ ?side1 ?side2 A6.out).mono ?_); (case side1 => repeat (first | exact (Kd.R_reads' HO103.out).2.2 | (with_reducible refine Kd.C_alloc ?_ _) | (with_reducible refine Kd.C_drewN ?_ _) | (with_reducible refine Kd.C_drew ?_))); (case side2 => exact (Kd.R_reads' HO103.out).2.1); rintro e w9 ⟨v105, rfl, ho0, hb⟩; refine ⟨_, rfl, ?_⟩; have n0_ := Ak (Kd.R_elder' (by (with_reducible repeat (first | apply Kd.R_alloc | apply Kd.R_drewN | apply Kd.R_drew)); exact HO103.out) (Kd.R_base ho0) hb); have n1_ := Ak (Kd.R_lower (Kd.R_new' ho0 (Kd.R_lt (by (with_reducible repeat (first | apply Kd.R_alloc | apply Kd.R_drewN | apply Kd.R_drew)); exact HO103.out))) (below_size (by repeat (first | exact HB.out | apply bA | apply bD | apply bE)))); have n2_ := Ak (below_step (by repeat (first | exact HB.out | apply bA | apply bD | apply bE)) hb); clear HO103; clear HB; have HO103 := n0_; have HO106 := n1_; have HB := n2_; clear n0_ n1_ n2_; (try clear hb); (try clear hb2); (try clear hk); (try clear hi); (try clear ho0)) | ((with_reducible refine gate_dst (N := 15) rfl ?_); refine Kd.R_lit k44 _ 44 ?hg (N := 15) ?hd (xs := ([] : List (S44))) (inner := []) (ok := fun _ => True) (okp := fun _ => True) ?hr ?hp (fun _ hk => hk) trivial (Below.refl _ _) (Nat.le_refl _) (by simp) ?_; (case hd | hg => rfl); (case hr => first | (go_simp; done) | (go_simp; rfl)); (case hp => exact (Reps.none _ _)); intro v108 w10 ho11 hb hg_ hnew_; clear hg_ hnew_; (first | rw [← Ny107.out] at ho11 | (simp only [Int.reduceToNat] at ho11; rw [← Ny107.out] at ho11)); have n0_ := Ak (Kd.R_elder' (by (with_reducible repeat (first | apply Kd.R_alloc | apply Kd.R_drewN | apply Kd.R_drew)); exact HO103.out) (Kd.R_base ho11) hb); have n1_ := Ak (Kd.R_elder' (by (with_reducible repeat (first | apply Kd.R_alloc | apply Kd.R_drewN | apply Kd.R_drew)); exact HO106.out) (Kd.R_base ho11) hb); have n2_ := Ak (Kd.R_lower (Kd.R_new' (Kd.R_new' ho11 (Kd.R_lt (by (with_reducible repeat (first | apply Kd.R_alloc | apply Kd.R_drewN | apply Kd.R_drew)); exact HO103.out))) (Kd.R_lt (by (with_reducible repeat (first | apply Kd.R_alloc | apply Kd.R_drewN | apply Kd.R_drew)); exact HO106.out))) (below_size (by repeat (first | exact HB.out | apply bA | apply bD | apply bE)))); have n3_ := Ak (below_step (by repeat (first | exact HB.out | apply bA | apply bD | apply bE)) hb); clear HO103; clear HO106; clear HB; have HO103 := n0_; have HO106 := n1_; have HO109 := n2_; have HB := n3_; clear n0_ n1_ n2_ n3_; clear hb ho11))
  go_loopg [5, 6] k (fun kq v5 v6 w' => ∃ (x5_1 : List (S44)) (x6_1 : Int), v6 = .int .i64 x6_1 ∧ Aside0 (spec_l04Hull.l0 kq t101 t104 x5_1 x6_1 = some r) ∧ Aside0 (kq ≤ k) ∧ Aside0 (Kd.R k44 44 w' w.heap.size (fun k_ => some k_ ≠ (v105 : Value).ownBlock ∧ some k_ ≠ (v5 : Value).ownBlock) (.slice Ao8 t101.length co8) t101) ∧ Aside0 (Kd.R k44 44 w' w.heap.size (fun k_ => some k_ ≠ ((.slice Ao8 t101.length co8) : Value).ownBlock ∧ some k_ ≠ (v5 : Value).ownBlock) v105 t104) ∧ Aside0 (Kd.R k44 44 w' w.heap.size (fun k_ => some k_ ≠ ((.slice Ao8 t101.length co8) : Value).ownBlock ∧ some k_ ≠ (v105 : Value).ownBlock) v5 x5_1) ∧ Aside0 (Below w.heap.size w w'))
  case atStart => exact ⟨(y107), (wrap64 ((t101.length : Int) - 1)), (by first | rfl | (simp; done) | (simp [*]; done)), H', ⟨Nat.le_refl _⟩, ⟨by (with_reducible repeat (first | apply Kd.R_alloc | apply Kd.R_drewN | apply Kd.R_drew)); exact Kd.R_mono HO103.out (fun _ hk => ⟨hk.1.2, hk.2⟩)⟩, ⟨by (with_reducible repeat (first | apply Kd.R_alloc | apply Kd.R_drewN | apply Kd.R_drew)); exact Kd.R_mono HO106.out (fun _ hk => ⟨hk.1.2, hk.2⟩)⟩, ⟨by (with_reducible repeat (first | apply Kd.R_alloc | apply Kd.R_drewN | apply Kd.R_drew)); exact Kd.R_mono HO109.out (fun _ hk => ⟨hk.1.2, hk.2⟩)⟩, ⟨by repeat (first | (with_reducible first | exact HB.out | apply bA | apply bD | apply bE) | exact HB.out)⟩⟩
  case round =>
   clear H'
   try clear p2
   try clear c3
   try clear c3b0
   try clear c3b1
   try clear c4
   try clear p6
   try clear c8
   obtain ⟨x5_1, x6_1, rfl, HA, HK1, HO_3, HO_4, HO_5, HB⟩ := hrel
   cases gk with
   | zero => exact absurd HA.out (by simp [spec_l04Hull.l0])
   | succ k1 =>
    have H := HA.out
    clear HA
    simp only [spec_l04Hull.l0] at H
    by_cases c12 : x6_1 ≥ 0
    ·rw [if_pos c12] at H
     have c12b0 : decide (0 ≤ x6_1) = true := decide_eq_true c12
     clear c12
     by_cases c13 : 0 ≤ x6_1
     ·rw [if_pos c13] at H
      have c13b0 : decide (0 ≤ x6_1) = true := decide_eq_true c13
      clear c13
      by_cases c14 : x6_1 < (t101.length : Int)
      ·rw [if_pos c14] at H
       have c14b0 : decide (x6_1 < (t101.length : Int)) = true := decide_eq_true c14
       clear c14
       by_cases c15 : x5_1.length < 8796093022208
       ·rw [if_pos c15] at H
        have LMc15 := Ak c15
        clear c15
        obtain ⟨y111, hy111⟩ : ∃ y_ : List (S44), y_ = (x5_1 ++ [(⟨(rd_T44 t101 x6_1).f0, (rd_T44 t101 x6_1).f1⟩ : S44)]) := ⟨_, rfl⟩
        replace H : (spec_l04Hull.l0 k1 t101 t104 y111 (wrap64 (x6_1 - 1))) = some r := by first | (rw [hy111]; exact H) | exact H
        have Ny111 := Ak hy111
        clear hy111
        have H' := Ak H
        clear H
        have p110 : 0 ≤ (x6_1 : Int) := of_decide_eq_true (by first | (with_reducible assumption) | assumption)
        have q110 : x6_1 < (t101.length : Int) := of_decide_eq_true (by first | (with_reducible assumption) | assumption)
        obtain ⟨ad110, e110, hx110_0, hx110_1⟩ := at_T44 (Kd.R_reads' HO_3.out).2.2 x6_1 p110 q110
        cases e110
        replace p110 := eq_true p110
        replace q110 := eq_true q110
        go_wp2_with (first | ((with_reducible refine gate_builtin (b := .append) (xs := #[.tmp 23, .tmp 28]) rfl ?_); at_builtin; refine Kd.R_append k44 (w0 := w) w.heap.size rfl (.tmp 23) (.tmp 28) 24 44 (.agg #[(.int .i64 0), (.int .i64 0)]) 16 rfl Try.underlying24 info44 rfl (by decide) (by omega) u5 x5_1 (⟨(rd_T44 t101 x6_1).f0, (rd_T44 t101 x6_1).f1⟩ : S44) [.int .i64 ((rd_T44 t101 x6_1).f0), .int .i64 ((rd_T44 t101 x6_1).f1)] (fun k_ => some k_ ≠ (.slice (some ad110) t101.length co8 : Value).ownBlock ∧ some k_ ≠ (v105 : Value).ownBlock) (fun _ => False) rfl rfl ?aP (fun _ hk => hk.elim) ?aF ?aO ?aB ?aS ?aL ?_; (case aP => exact k44_mkM _ _ _ (⟨(rd_T44 t101 x6_1).f0, (rd_T44 t101 x6_1).f1⟩ : S44)); (case aB => exact (by repeat (first | exact HB.out | apply bA | apply bD | apply bE))); (case aF => exact (fun k_ hk => ⟨Kd.fresh' (Kd.R_lt (by (with_reducible repeat (first | apply Kd.R_alloc | apply Kd.R_drewN | apply Kd.R_drew)); exact HO_3.out)) k_ hk, Kd.fresh' (Kd.R_lt (by (with_reducible repeat (first | apply Kd.R_alloc | apply Kd.R_drewN | apply Kd.R_drew)); exact HO_4.out)) k_ hk⟩)); (case aO => exact (by (with_reducible repeat (first | apply Kd.R_alloc | apply Kd.R_drewN | apply Kd.R_drew)); exact HO_5.out)); (case aS => exact (below_size (by repeat (first | exact HB.out | apply bA | apply bD | apply bE)))); (case aL => have := LMc15.out; omega); intro v112 w16 ho hb hg hat; rw [← Ny111.out] at ho; have n0_ := Ak (Kd.R_after (ok := (fun k_ => some k_ ≠ (v105 : Value).ownBlock)) (by (with_reducible repeat (first | apply Kd.R_alloc | apply Kd.R_drewN | apply Kd.R_drew)); exact HO_3.out) hg hat); have n1_ := Ak (Kd.R_after (ok := (fun k_ => some k_ ≠ (.slice (some ad110) t101.length co8 : Value).ownBlock)) (by (with_reducible repeat (first | apply Kd.R_alloc | apply Kd.R_drewN | apply Kd.R_drew)); exact HO_4.out) hg hat); have n2_ := Ak (hb); have n3_ := Ak (ho); clear HO_3; clear HO_4; clear HB; clear HO_5; have HO_3 := n0_; have HO_4 := n1_; have HB := n2_; have HO113 := n3_; clear n0_ n1_ n2_ n3_; clear ho hb hg hat))
        go_roundg k1
        case measure => have := HK1.out; omega
        case rel => exact ⟨(y111), (wrap64 (x6_1 - 1)), (by first | rfl | (simp; done) | (simp [*]; done)), H', ⟨by have := HK1.out; omega⟩, ⟨by (with_reducible repeat (first | apply Kd.R_alloc | apply Kd.R_drewN | apply Kd.R_drew)); exact HO_3.out⟩, ⟨by (with_reducible repeat (first | apply Kd.R_alloc | apply Kd.R_drewN | apply Kd.R_drew)); exact HO_4.out⟩, ⟨by (with_reducible repeat (first | apply Kd.R_alloc | apply Kd.R_drewN | apply Kd.R_drew)); exact HO113.out⟩, ⟨by repeat (first | (with_reducible first | exact HB.out | apply bA | apply bD | apply bE) | exact HB.out)⟩⟩
       ·rw [if_neg c15] at H
        exact absurd H (by simp)
      ·rw [if_neg c14] at H
       exact absurd H (by simp)
     ·rw [if_neg c13] at H
      exact absurd H (by simp)
    ·rw [if_neg c12] at H
     have c12b0 : decide (0 ≤ x6_1) = false := decide_eq_false c12
     clear c12
     replace H := Option.bind_eq_some_iff.mp H
     obtain ⟨t114, A170, H⟩ := H
     replace H : ((some (([] : List (S44)) : List (S44))).bind fun y117 => (if 0 ≤ (wrap64 ((t104.length : Int) - 1)) then (if (wrap64 ((t104.length : Int) - 1)) ≤ (t104.length : Int) then ((some (t104.take ((wrap64 ((t104.length : Int) - 1)) : Int).toNat : List (S44))).bind fun y120 => (if y117.length + y120.length < 8796093022208 then ((some (y117 ++ y120 : List (S44))).bind fun y124 => (if 0 ≤ (wrap64 ((t114.length : Int) - 1)) then (if (wrap64 ((t114.length : Int) - 1)) ≤ (t114.length : Int) then ((some (t114.take ((wrap64 ((t114.length : Int) - 1)) : Int).toNat : List (S44))).bind fun y127 => (if y124.length + y127.length < 8796093022208 then (some (y124 ++ y127)) else (none))) else (none)) else (none))) else (none))) else (none)) else (none))) = some r := H
     have A17 := Ak A170
     clear A170
     obtain ⟨y117, hy117⟩ : ∃ y_ : List (S44), y_ = (([] : List (S44))) := ⟨_, rfl⟩
     replace H : (if 0 ≤ (wrap64 ((t104.length : Int) - 1)) then (if (wrap64 ((t104.length : Int) - 1)) ≤ (t104.length : Int) then ((some (t104.take ((wrap64 ((t104.length : Int) - 1)) : Int).toNat : List (S44))).bind fun y120 => (if y117.length + y120.length < 8796093022208 then ((some (y117 ++ y120 : List (S44))).bind fun y124 => (if 0 ≤ (wrap64 ((t114.length : Int) - 1)) then (if (wrap64 ((t114.length : Int) - 1)) ≤ (t114.length : Int) then ((some (t114.take ((wrap64 ((t114.length : Int) - 1)) : Int).toNat : List (S44))).bind fun y127 => (if y124.length + y127.length < 8796093022208 then (some (y124 ++ y127)) else (none))) else (none)) else (none))) else (none))) else (none)) else (none)) = some r := by first | (rw [hy117]; exact H) | exact H
     have Ny117 := Ak hy117
     clear hy117
     obtain ⟨ji18, hji18⟩ : ∃ j_ : Int, (wrap64 ((t104.length : Int) - 1)) = j_ := ⟨_, rfl⟩
     replace H : (if 0 ≤ (ji18) then (if (ji18) ≤ (t104.length : Int) then ((some (t104.take ((ji18) : Int).toNat : List (S44))).bind fun y120 => (if y117.length + y120.length < 8796093022208 then ((some (y117 ++ y120 : List (S44))).bind fun y124 => (if 0 ≤ (wrap64 ((t114.length : Int) - 1)) then (if (wrap64 ((t114.length : Int) - 1)) ≤ (t114.length : Int) then ((some (t114.take ((wrap64 ((t114.length : Int) - 1)) : Int).toNat : List (S44))).bind fun y127 => (if y124.length + y127.length < 8796093022208 then (some (y124 ++ y127)) else (none))) else (none)) else (none))) else (none))) else (none)) else (none)) = some r := by first | (rw [hji18] at H; exact H) | (simp only [hji18] at H ⊢; exact H)
     (try rw [hji18] at A17)
     have hji18w : (IntKind.i64.wrap ((t104.length : Int) - 1)) = ji18 := (i64_w _).trans hji18
     by_cases c19 : 0 ≤ (ji18)
     ·rw [if_pos c19] at H
      have c19b0 := eq_true c19
      have c19b1 : decide (0 ≤ (ji18)) = true := decide_eq_true c19
      clear c19
      by_cases c20 : (ji18) ≤ (t104.length : Int)
      ·rw [if_pos c20] at H
       have c20b0 := eq_true c20
       have c20b1 : decide ((ji18) ≤ (t104.length : Int)) = true := decide_eq_true c20
       clear c20
       obtain ⟨y120, hy120⟩ : ∃ y_ : List (S44), y_ = (t104.take ((ji18) : Int).toNat) := ⟨_, rfl⟩
       replace H : (if y117.length + y120.length < 8796093022208 then ((some (y117 ++ y120 : List (S44))).bind fun y124 => (if 0 ≤ (wrap64 ((t114.length : Int) - 1)) then (if (wrap64 ((t114.length : Int) - 1)) ≤ (t114.length : Int) then ((some (t114.take ((wrap64 ((t114.length : Int) - 1)) : Int).toNat : List (S44))).bind fun y127 => (if y124.length + y127.length < 8796093022208 then (some (y124 ++ y127)) else (none))) else (none)) else (none))) else (none)) = some r := by first | (rw [hy120]; exact H) | exact H
       have Ny120 := Ak hy120
       clear hy120
       by_cases c21 : y117.length + y120.length < 8796093022208
       ·rw [if_pos c21] at H
        have LMc21 := Ak c21
        clear c21
        obtain ⟨y124, hy124⟩ : ∃ y_ : List (S44), y_ = (y117 ++ y120) := ⟨_, rfl⟩
        replace H : (if 0 ≤ (wrap64 ((t114.length : Int) - 1)) then (if (wrap64 ((t114.length : Int) - 1)) ≤ (t114.length : Int) then ((some (t114.take ((wrap64 ((t114.length : Int) - 1)) : Int).toNat : List (S44))).bind fun y127 => (if y124.length + y127.length < 8796093022208 then (some (y124 ++ y127)) else (none))) else (none)) else (none)) = some r := by first | (rw [hy124]; exact H) | exact H
        have Ny124 := Ak hy124
        clear hy124
        obtain ⟨ji22, hji22⟩ : ∃ j_ : Int, (wrap64 ((t114.length : Int) - 1)) = j_ := ⟨_, rfl⟩
        replace H : (if 0 ≤ (ji22) then (if (ji22) ≤ (t114.length : Int) then ((some (t114.take ((ji22) : Int).toNat : List (S44))).bind fun y127 => (if y124.length + y127.length < 8796093022208 then (some (y124 ++ y127)) else (none))) else (none)) else (none)) = some r := by first | (rw [hji22] at H; exact H) | (simp only [hji22] at H ⊢; exact H)
        (try rw [hji22] at A17)
        have hji22w : (IntKind.i64.wrap ((t114.length : Int) - 1)) = ji22 := (i64_w _).trans hji22
        by_cases c23 : 0 ≤ (ji22)
        ·rw [if_pos c23] at H
         have c23b0 := eq_true c23
         have c23b1 : decide (0 ≤ (ji22)) = true := decide_eq_true c23
         clear c23
         by_cases c24 : (ji22) ≤ (t114.length : Int)
         ·rw [if_pos c24] at H
          have c24b0 := eq_true c24
          have c24b1 : decide ((ji22) ≤ (t114.length : Int)) = true := decide_eq_true c24
          clear c24
          obtain ⟨y127, hy127⟩ : ∃ y_ : List (S44), y_ = (t114.take ((ji22) : Int).toNat) := ⟨_, rfl⟩
          replace H : (if y124.length + y127.length < 8796093022208 then (some (y124 ++ y127)) else (none)) = some r := by first | (rw [hy127]; exact H) | exact H
          have Ny127 := Ak hy127
          clear hy127
          by_cases c25 : y124.length + y127.length < 8796093022208
          ·rw [if_pos c25] at H
           have LMc25 := Ak c25
           clear c25
           obtain ⟨y131, hy131⟩ : ∃ y_ : List (S44), y_ = (y124 ++ y127) := ⟨_, rfl⟩
           replace H : (some y131) = some r := by first | (rw [hy131]; exact H) | exact H
           have Ny131 := Ak hy131
           clear hy131
           obtain rfl := Option.some.inj H
           obtain ⟨Ao26, co26, eo26⟩ := Kd.R_slice HO_5.out
           subst eo26
           try go_wp2_with (first | ((with_reducible refine gate_callee (f := 86) rfl ?_); refine goesL_ (some 31) rfl rfl Try.func86 (by kernel_rfl) rfl #[.slice Ao26 x5_1.length co26] rfl (by (try simp only [List.map_toArray, List.map_cons, List.map_nil]); first | done | rfl | (simp only [List.length_drop, List.length_take]; rfl)) ?_; (with_reducible refine (spec_l04Chain.calls k1 _ _ x5_1 t114 _ ?side1 ?side2 A17.out).mono ?_); (case side1 => repeat (first | exact (Kd.R_reads' HO_5.out).2.2 | (with_reducible refine Kd.C_alloc ?_ _) | (with_reducible refine Kd.C_drewN ?_ _) | (with_reducible refine Kd.C_drew ?_))); (case side2 => exact (Kd.R_reads' HO_5.out).2.1); rintro e w27 ⟨v115, rfl, ho0, hb⟩; refine ⟨_, rfl, ?_⟩; have n0_ := Ak (Kd.R_elder' (by (with_reducible repeat (first | apply Kd.R_alloc | apply Kd.R_drewN | apply Kd.R_drew)); exact HO_3.out) (Kd.R_base ho0) hb); have n1_ := Ak (Kd.R_elder' (by (with_reducible repeat (first | apply Kd.R_alloc | apply Kd.R_drewN | apply Kd.R_drew)); exact HO_4.out) (Kd.R_base ho0) hb); have n2_ := Ak (Kd.R_elder' (by (with_reducible repeat (first | apply Kd.R_alloc | apply Kd.R_drewN | apply Kd.R_drew)); exact HO_5.out) (Kd.R_base ho0) hb); have n3_ := Ak (Kd.R_lower (Kd.R_new' (Kd.R_new' (Kd.R_new' ho0 (Kd.R_lt (by (with_reducible repeat (first | apply Kd.R_alloc | apply Kd.R_drewN | apply Kd.R_drew)); exact HO_3.out))) (Kd.R_lt (by (with_reducible repeat (first | apply Kd.R_alloc | apply Kd.R_drewN | apply Kd.R_drew)); exact HO_4.out))) (Kd.R_lt (by (with_reducible repeat (first | apply Kd.R_alloc | apply Kd.R_drewN | apply Kd.R_drew)); exact HO_5.out))) (below_size (by repeat (first | exact HB.out | apply bA | apply bD | apply bE)))); have n4_ := Ak (below_step (by repeat (first | exact HB.out | apply bA | apply bD | apply bE)) hb); clear HO_3; clear HO_4; clear HO_5; clear HB; have HO_3 := n0_; have HO_4 := n1_; have HO_5 := n2_; have HO116 := n3_; have HB := n4_; clear n0_ n1_ n2_ n3_ n4_; (try clear hb); (try clear hb2); (try clear hk); (try clear hi); (try clear ho0)))
           have n0_ := Ak (Kd.R_drew HO_3.out)
           have n1_ := Ak (Kd.R_drew HO_4.out)
           have n2_ := Ak (Kd.R_drew HO_5.out)
           have n3_ := Ak (Kd.R_drew HO116.out)
           have n4_ := Ak (below_drew1 HB.out)
           clear HO_3
           clear HO_4
           clear HO_5
           clear HO116
           clear HB
           have HO_3 := n0_
           have HO_4 := n1_
           have HO_5 := n2_
           have HO116 := n3_
           have HB := n4_
           clear n0_ n1_ n2_ n3_ n4_
           obtain ⟨Ao29, co29, eo29⟩ := Kd.R_slice HO_4.out
           (first | subst eo29 | (injection eo29 with f1_ f2_ f3_; have f4_ := f1_.symm; have f5_ := f3_.symm; clear f1_ f2_ f3_; subst f4_; subst f5_))
           have q30 : ((ji18) : Int) ≤ ((t104.length : Int) : Int) := of_decide_eq_true (by first | (with_reducible assumption) | assumption)
           obtain ⟨i030, hi030, _, hsz30, _⟩ := info_parts info44
           have hroom30 : t104.length ≤ co29 := (Kd.R_reads' HO_4.out).2.1
           have hC30 : Kd.C k44 _ Ao29 t104.length t104 := (Kd.R_reads' HO_4.out).2.2
           have hcut30 := cut_to (P := Try.prog) 24 44 .i64 Try.underlying24 hi030 Ao29 t104.length co29 (ji18) (of_decide_eq_true (by first | (with_reducible assumption) | assumption)) q30 hroom30
           have hr30 := Kd.C_take (m := ((ji18) : Int).toNat) hC30 (by omega)
           have hy30 : y120.length = ((ji18) : Int).toNat := (by rw [Ny120.out, List.length_take]; omega)
           rw [← Ny120.out] at hr30
           rw [← hy30] at hcut30
           have HR123 := Ak hr30
           have HC123 := Ak (show y120.length ≤ co29 from by omega)
           clear hr30 hC30 hroom30 hi030 hsz30
           have KY30 := Ak hy30
           clear hy30
           have KL30 := Ak (show ((ji18) : Int).toNat ≤ t104.length from by omega)
           replace q30 := eq_true q30
           obtain ⟨Ao31, co31, eo31⟩ := Kd.R_slice HO116.out
           (first | subst eo31 | (injection eo31 with f1_ f2_ f3_; have f4_ := f1_.symm; have f5_ := f3_.symm; clear f1_ f2_ f3_; subst f4_; subst f5_))
           have q32 : ((ji22) : Int) ≤ ((t114.length : Int) : Int) := of_decide_eq_true (by first | (with_reducible assumption) | assumption)
           obtain ⟨i032, hi032, _, hsz32, _⟩ := info_parts info44
           have hroom32 : t114.length ≤ co31 := (Kd.R_reads' HO116.out).2.1
           have hC32 : Kd.C k44 _ Ao31 t114.length t114 := (Kd.R_reads' HO116.out).2.2
           have hcut32 := cut_to (P := Try.prog) 24 44 .i64 Try.underlying24 hi032 Ao31 t114.length co31 (ji22) (of_decide_eq_true (by first | (with_reducible assumption) | assumption)) q32 hroom32
           have hr32 := Kd.C_take (m := ((ji22) : Int).toNat) hC32 (by omega)
           have hy32 : y127.length = ((ji22) : Int).toNat := (by rw [Ny127.out, List.length_take]; omega)
           rw [← Ny127.out] at hr32
           rw [← hy32] at hcut32
           have HR130 := Ak hr32
           have HC130 := Ak (show y127.length ≤ co31 from by omega)
           clear hr32 hC32 hroom32 hi032 hsz32
           have KY32 := Ak hy32
           clear hy32
           have KL32 := Ak (show ((ji22) : Int).toNat ≤ t114.length from by omega)
           replace q32 := eq_true q32
           refine start_ (n := 14) (S := fun w' => True) (ds := []) #[F,F,F,F,F,F,F,F,F,F,F,F,F,F] (by kernel_rfl) rfl rfl trivial (fun hHeld => ?_); refine with_tabW spec_l04Hull.tab11 spec_l04Hull.bits11 (fun HT_ HW_ => ?_)
           generalize w27.drew = w28 at HO_3 HO_4 HO_5 HO116 HB HR123 HR130 hHeld ⊢
           refine pure_ (i := 1) (N := some 33) (v := ?_) (a' := ?_) #[F,T,F,F,F,F,F,F,F,F,F,F,F,F] rfl rfl (any_of HT_.out (by kernel_rfl)) (fun _ _ _ h => h) (Or.inl ⟨by rfl, ?_⟩) ?_ ?_
           rotate_left
           ·intro w'
            go_simp
            with_reducible rfl
           rotate_left
           ·simp only [Act.put, sA, sB, sC, sD, sE]
            rfl
           refine pure_ (i := 2) (N := some 34) (v := ?_) (a' := ?_) #[F,T,T,F,F,F,F,F,F,F,F,F,F,F] rfl rfl (any_of HT_.out (by kernel_rfl)) (fun _ _ _ h => h) (Or.inl ⟨by rfl, ?_⟩) ?_ ?_
           rotate_left
           ·intro w'
            go_simp
            with_reducible rfl
           rotate_left
           ·simp only [Act.put, sA, sB, sC, sD, sE]
            rfl
           refine pure_ (i := 3) (N := some 35) (v := ?_) (a' := ?_) #[F,T,T,T,F,F,F,F,F,F,F,F,F,F] rfl rfl (any_of HT_.out (by kernel_rfl)) (fun _ _ _ h => h) (Or.inl ⟨by rfl, ?_⟩) ?_ ?_
           rotate_left
           ·intro w'
            go_simp
            with_reducible rfl
           rotate_left
           ·simp only [Act.put, sA, sB, sC, sD, sE]
            rfl
           refine pure_ (i := 4) (N := some 36) (v := ?_) (a' := ?_) #[F,T,T,T,T,F,F,F,F,F,F,F,F,F] rfl rfl (any_of HT_.out (by kernel_rfl)) (fun _ _ _ h => h) (Or.inl ⟨by rfl, ?_⟩) ?_ ?_
           rotate_left
           ·intro w'
            go_simp
            with_reducible rfl
           rotate_left
           ·simp only [Act.put, sA, sB, sC, sD, sE]
            rfl
           refine pure_ (i := 5) (N := some 37) (v := ?_) (a' := ?_) #[F,T,T,T,T,T,F,F,F,F,F,F,F,F] rfl rfl (any_of HT_.out (by kernel_rfl)) (fun _ _ _ h => h) (Or.inl ⟨by rfl, ?_⟩) ?_ ?_
           rotate_left
           ·intro w'
            go_simp
            with_reducible rfl
           rotate_left
           ·simp only [Act.put, sA, sB, sC, sD, sE]
            rfl
           refine pure_ (i := 7) (N := some 39) (v := ?_) (a' := ?_) #[F,T,T,T,T,T,F,T,F,F,F,F,F,F] rfl rfl (any_of HT_.out (by kernel_rfl)) (fun _ _ _ h => h) (Or.inl ⟨by rfl, ?_⟩) ?_ ?_
           rotate_left
           ·intro w'
            go_simp
            with_reducible rfl
           rotate_left
           ·simp only [Act.put, sA, sB, sC, sD, sE]
            rfl
           refine pure_ (i := 8) (N := some 40) (v := ?_) (a' := ?_) #[F,T,T,T,T,T,F,T,T,F,F,F,F,F] rfl rfl (any_of HT_.out (by kernel_rfl)) (fun _ _ _ h => h) (Or.inl ⟨by rfl, ?_⟩) ?_ ?_
           rotate_left
           ·intro w'
            go_simp
            with_reducible rfl
           rotate_left
           ·simp only [Act.put, sA, sB, sC, sD, sE]
            rfl
           refine pure_ (i := 9) (N := some 41) (v := ?_) (a' := ?_) #[F,T,T,T,T,T,F,T,T,T,F,F,F,F] rfl rfl (any_of HT_.out (by kernel_rfl)) (fun _ _ _ h => h) (Or.inl ⟨by rfl, ?_⟩) ?_ ?_
           rotate_left
           ·intro w'
            go_simp
            with_reducible rfl
           rotate_left
           ·simp only [Act.put, sA, sB, sC, sD, sE]
            rfl
           refine pure_ (i := 10) (N := some 42) (v := ?_) (a' := ?_) #[F,T,T,T,T,T,F,T,T,T,T,F,F,F] rfl rfl (any_of HT_.out (by kernel_rfl)) (fun _ _ _ h => h) (Or.inl ⟨by rfl, ?_⟩) ?_ ?_
           rotate_left
           ·intro w'
            go_simp
            with_reducible rfl
           rotate_left
           ·simp only [Act.put, sA, sB, sC, sD, sE]
            rfl
           refine pure_ (i := 11) (N := some 43) (v := ?_) (a' := ?_) #[F,T,T,T,T,T,F,T,T,T,T,T,F,F] rfl rfl (any_of HT_.out (by kernel_rfl)) (fun _ _ _ h => h) (Or.inl ⟨by rfl, ?_⟩) ?_ ?_
           rotate_left
           ·intro w'
            go_simp
            with_reducible rfl
           rotate_left
           ·simp only [Act.put, sA, sB, sC, sD, sE]
            rfl
           refine one_ (i := 0) (N := some 32) #[T,T,T,T,T,T,F,T,T,T,T,T,F,F] rfl rfl (one_of HT_.out (by kernel_rfl)) (by decide) (fun K hK => ?_)
           refine Kd.R_lit_step k44 _ 44 ?hg (N := 32) ?hd (xs := ([] : List (S44))) (inner := []) (ok := fun _ => True) (okp := fun _ => True) ?hr ?hp (fun _ hk => hk) trivial (Below.refl _ _) (Nat.le_refl _) (by simp) ?_; (case hd | hg => rfl); (case hr => first | (go_simp; done) | (go_simp; rfl)); (case hp => exact (Reps.none _ _))
           intro v118 w33 ho34 hb hg_ hnew_
           clear hg_ hnew_
           (first | rw [← Ny117.out] at ho34 | (simp only [Int.reduceToNat] at ho34; rw [← Ny117.out] at ho34))
           have n0_ := Ak (Kd.R_elder' (by (with_reducible repeat (first | apply Kd.R_alloc | apply Kd.R_drewN | apply Kd.R_drew)); exact HO_3.out) (Kd.R_base ho34) hb)
           have n1_ := Ak (Kd.R_elder' (by (with_reducible repeat (first | apply Kd.R_alloc | apply Kd.R_drewN | apply Kd.R_drew)); exact HO_4.out) (Kd.R_base ho34) hb)
           have n2_ := Ak (Kd.R_elder' (by (with_reducible repeat (first | apply Kd.R_alloc | apply Kd.R_drewN | apply Kd.R_drew)); exact HO_5.out) (Kd.R_base ho34) hb)
           have n3_ := Ak (Kd.R_elder' (by (with_reducible repeat (first | apply Kd.R_alloc | apply Kd.R_drewN | apply Kd.R_drew)); exact HO116.out) (Kd.R_base ho34) hb)
           have n4_ := Ak (Kd.R_lower (Kd.R_new' (Kd.R_new' (Kd.R_new' (Kd.R_new' ho34 (Kd.R_lt (by (with_reducible repeat (first | apply Kd.R_alloc | apply Kd.R_drewN | apply Kd.R_drew)); exact HO_3.out))) (Kd.R_lt (by (with_reducible repeat (first | apply Kd.R_alloc | apply Kd.R_drewN | apply Kd.R_drew)); exact HO_4.out))) (Kd.R_lt (by (with_reducible repeat (first | apply Kd.R_alloc | apply Kd.R_drewN | apply Kd.R_drew)); exact HO_5.out))) (Kd.R_lt (by (with_reducible repeat (first | apply Kd.R_alloc | apply Kd.R_drewN | apply Kd.R_drew)); exact HO116.out))) (below_size (by repeat (first | exact HB.out | apply bA | apply bD | apply bE))))
           have n5_ := Ak (Kd.C_below (by repeat (first | (with_reducible exact HR123.out) | (with_reducible refine Kd.C_alloc ?_ _) | (with_reducible refine Kd.C_drewN ?_ _) | (with_reducible refine Kd.C_drew ?_) | exact HR123.out)) hb)
           have n6_ := Ak (Kd.C_below (by repeat (first | (with_reducible exact HR130.out) | (with_reducible refine Kd.C_alloc ?_ _) | (with_reducible refine Kd.C_drewN ?_ _) | (with_reducible refine Kd.C_drew ?_) | exact HR130.out)) hb)
           have n7_ := Ak (below_step (by repeat (first | exact HB.out | apply bA | apply bD | apply bE)) hb)
           clear HO_3
           clear HO_4
           clear HO_5
           clear HO116
           clear HR123
           clear HR130
           clear HB
           have HO_3 := n0_
           have HO_4 := n1_
           have HO_5 := n2_
           have HO116 := n3_
           have HO119 := n4_
           have HR123 := n5_
           have HR130 := n6_
           have HB := n7_
           clear n0_ n1_ n2_ n3_ n4_ n5_ n6_ n7_
           clear hb ho34
           refine hK.out _ _ trivial (fun hHeld => ?_)
           clear hK K
           refine norm_ (a' := ?_) ?_ ?_
           rotate_left
           ·show Act.put _ (some 32) _ = _
            simp only [Act.put, sA, sB, sC, sD, sE]
            rfl
           refine one_ (i := 6) (N := some 38) #[T,T,T,T,T,T,T,T,T,T,T,T,F,F] rfl rfl (one_of HT_.out (by kernel_rfl)) (by decide) (fun K hK => ?_)
           refine Kd.R_append_rows_step k44 (w0 := w) w.heap.size (by rfl) (.tmp 32) (.tmp 37) 24 44 (.agg #[(.int .i64 0), (.int .i64 0)]) 16 rfl Try.underlying24 info44 rfl (by decide) (by omega) v118 y117 y120 _ _ _ (fun k_ => some k_ ≠ (.slice Ao8 t101.length co8 : Value).ownBlock ∧ some k_ ≠ (.slice Ao29 t104.length co29 : Value).ownBlock ∧ some k_ ≠ (.slice Ao26 x5_1.length co26 : Value).ownBlock ∧ some k_ ≠ (.slice Ao31 t114.length co31 : Value).ownBlock) (fun _ => False) rfl rfl ?aO ?aR (fun _ _ h => h) (fun _ h => h.elim) ?aF ?aB ?aS ?aL ?_
           (case aR => repeat (first | exact (by repeat (first | (with_reducible exact HR123.out) | (with_reducible refine Kd.C_alloc ?_ _) | (with_reducible refine Kd.C_drewN ?_ _) | (with_reducible refine Kd.C_drew ?_) | exact HR123.out)) | (with_reducible refine Kd.C_alloc ?_ _) | (with_reducible refine Kd.C_drewN ?_ _) | (with_reducible refine Kd.C_drew ?_)))
           (case aB => exact (by repeat (first | exact HB.out | apply bA | apply bD | apply bE)))
           (case aF => exact (fun k_ hk => ⟨Kd.fresh' (Kd.R_lt (by (with_reducible repeat (first | apply Kd.R_alloc | apply Kd.R_drewN | apply Kd.R_drew)); exact HO_3.out)) k_ hk, Kd.fresh' (Kd.R_lt (by (with_reducible repeat (first | apply Kd.R_alloc | apply Kd.R_drewN | apply Kd.R_drew)); exact HO_4.out)) k_ hk, Kd.fresh' (Kd.R_lt (by (with_reducible repeat (first | apply Kd.R_alloc | apply Kd.R_drewN | apply Kd.R_drew)); exact HO_5.out)) k_ hk, Kd.fresh' (Kd.R_lt (by (with_reducible repeat (first | apply Kd.R_alloc | apply Kd.R_drewN | apply Kd.R_drew)); exact HO116.out)) k_ hk⟩))
           (case aO => exact (by (with_reducible repeat (first | apply Kd.R_alloc | apply Kd.R_drewN | apply Kd.R_drew)); exact Kd.R_mono HO119.out (fun _ hk => ⟨hk.1.1.1.2, ⟨hk.1.1.2, ⟨hk.1.2, hk.2⟩⟩⟩)))
           (case aS => exact (below_size (by repeat (first | exact HB.out | apply bA | apply bD | apply bE))))
           (case aL => have := LMc21.out; omega)
           intro v125 w35 ho hb hg hat
           rw [← Ny124.out] at ho
           have n0_ := Ak (Kd.R_after (ok := (fun k_ => some k_ ≠ (.slice Ao29 t104.length co29 : Value).ownBlock ∧ some k_ ≠ (.slice Ao26 x5_1.length co26 : Value).ownBlock ∧ some k_ ≠ (.slice Ao31 t114.length co31 : Value).ownBlock)) (by (with_reducible repeat (first | apply Kd.R_alloc | apply Kd.R_drewN | apply Kd.R_drew)); exact Kd.R_mono HO_3.out (fun _ hk => ⟨⟨hk.1.1.1, ⟨hk.1.1.2, hk.1.2⟩⟩, hk.2⟩)) hg hat)
           have n1_ := Ak (Kd.R_after (ok := (fun k_ => some k_ ≠ (.slice Ao8 t101.length co8 : Value).ownBlock ∧ some k_ ≠ (.slice Ao26 x5_1.length co26 : Value).ownBlock ∧ some k_ ≠ (.slice Ao31 t114.length co31 : Value).ownBlock)) (by (with_reducible repeat (first | apply Kd.R_alloc | apply Kd.R_drewN | apply Kd.R_drew)); exact Kd.R_mono HO_4.out (fun _ hk => ⟨⟨hk.1.1.1, ⟨hk.1.1.2, hk.1.2⟩⟩, hk.2⟩)) hg hat)
           have n2_ := Ak (Kd.R_after (ok := (fun k_ => some k_ ≠ (.slice Ao8 t101.length co8 : Value).ownBlock ∧ some k_ ≠ (.slice Ao29 t104.length co29 : Value).ownBlock ∧ some k_ ≠ (.slice Ao31 t114.length co31 : Value).ownBlock)) (by (with_reducible repeat (first | apply Kd.R_alloc | apply Kd.R_drewN | apply Kd.R_drew)); exact Kd.R_mono HO_5.out (fun _ hk => ⟨⟨hk.1.1.1, ⟨hk.1.1.2, hk.1.2⟩⟩, hk.2⟩)) hg hat)
           have n3_ := Ak (Kd.R_after (ok := (fun k_ => some k_ ≠ (.slice Ao8 t101.length co8 : Value).ownBlock ∧ some k_ ≠ (.slice Ao29 t104.length co29 : Value).ownBlock ∧ some k_ ≠ (.slice Ao26 x5_1.length co26 : Value).ownBlock)) (by (with_reducible repeat (first | apply Kd.R_alloc | apply Kd.R_drewN | apply Kd.R_drew)); exact Kd.R_mono HO116.out (fun _ hk => ⟨⟨hk.1.1.1.2, ⟨hk.1.1.2, hk.1.2⟩⟩, hk.2⟩)) hg hat)
           have n4_ := Ak (hb)
           have n5_ := Ak ((show Kd.C k44 w35 Ao29 y120.length y120 from by rw [Ny120.out]; exact Kd.C_take (m := ((ji18) : Int).toNat) ((Kd.R_reads' (Kd.R_after (ok := (fun k_ => some k_ ≠ (.slice Ao8 t101.length co8 : Value).ownBlock ∧ some k_ ≠ (.slice Ao26 x5_1.length co26 : Value).ownBlock ∧ some k_ ≠ (.slice Ao31 t114.length co31 : Value).ownBlock)) (by (with_reducible repeat (first | apply Kd.R_alloc | apply Kd.R_drewN | apply Kd.R_drew)); exact Kd.R_mono HO_4.out (fun _ hk => ⟨⟨hk.1.1.1, ⟨hk.1.1.2, hk.1.2⟩⟩, hk.2⟩)) hg hat)).2.2) KL30.out))
           have n6_ := Ak ((show Kd.C k44 w35 Ao31 y127.length y127 from by rw [Ny127.out]; exact Kd.C_take (m := ((ji22) : Int).toNat) ((Kd.R_reads' (Kd.R_after (ok := (fun k_ => some k_ ≠ (.slice Ao8 t101.length co8 : Value).ownBlock ∧ some k_ ≠ (.slice Ao29 t104.length co29 : Value).ownBlock ∧ some k_ ≠ (.slice Ao26 x5_1.length co26 : Value).ownBlock)) (by (with_reducible repeat (first | apply Kd.R_alloc | apply Kd.R_drewN | apply Kd.R_drew)); exact Kd.R_mono HO116.out (fun _ hk => ⟨⟨hk.1.1.1.2, ⟨hk.1.1.2, hk.1.2⟩⟩, hk.2⟩)) hg hat)).2.2) KL32.out))
           have n7_ := Ak (ho)
           clear HO_3
           clear HO_4
           clear HO_5
           clear HO116
           clear HB
           clear HR123
           clear HR130
           clear HO119
           have HO_3 := n0_
           have HO_4 := n1_
           have HO_5 := n2_
           have HO116 := n3_
           have HB := n4_
           have HR123 := n5_
           have HR130 := n6_
           have HO126 := n7_
           clear n0_ n1_ n2_ n3_ n4_ n5_ n6_ n7_
           clear ho hb hg hat
           refine hK.out _ _ trivial (fun hHeld => ?_)
           clear hK K
           refine norm_ (a' := ?_) ?_ ?_
           rotate_left
           ·show Act.put _ (some 38) _ = _
            simp only [Act.put, sA, sB, sC, sD, sE]
            rfl
           refine one_ (i := 12) (N := some 44) #[T,T,T,T,T,T,T,T,T,T,T,T,T,F] rfl rfl (one_of HT_.out (by kernel_rfl)) (by decide) (fun K hK => ?_)
           refine Kd.R_append_rows_step k44 (w0 := w) w.heap.size (by rfl) (.tmp 38) (.tmp 43) 24 44 (.agg #[(.int .i64 0), (.int .i64 0)]) 16 rfl Try.underlying24 info44 rfl (by decide) (by omega) v125 y124 y127 _ _ _ (fun k_ => some k_ ≠ (.slice Ao8 t101.length co8 : Value).ownBlock ∧ some k_ ≠ (.slice Ao29 t104.length co29 : Value).ownBlock ∧ some k_ ≠ (.slice Ao26 x5_1.length co26 : Value).ownBlock ∧ some k_ ≠ (.slice Ao31 t114.length co31 : Value).ownBlock) (fun _ => False) rfl rfl ?aO ?aR (fun _ _ h => h) (fun _ h => h.elim) ?aF ?aB ?aS ?aL ?_
           (case aR => repeat (first | exact (by repeat (first | (with_reducible exact HR130.out) | (with_reducible refine Kd.C_alloc ?_ _) | (with_reducible refine Kd.C_drewN ?_ _) | (with_reducible refine Kd.C_drew ?_) | exact HR130.out)) | (with_reducible refine Kd.C_alloc ?_ _) | (with_reducible refine Kd.C_drewN ?_ _) | (with_reducible refine Kd.C_drew ?_)))
           (case aB => exact (by repeat (first | exact HB.out | apply bA | apply bD | apply bE)))
           (case aF => exact (fun k_ hk => ⟨Kd.fresh' (Kd.R_lt (by (with_reducible repeat (first | apply Kd.R_alloc | apply Kd.R_drewN | apply Kd.R_drew)); exact HO_3.out)) k_ hk, Kd.fresh' (Kd.R_lt (by (with_reducible repeat (first | apply Kd.R_alloc | apply Kd.R_drewN | apply Kd.R_drew)); exact HO_4.out)) k_ hk, Kd.fresh' (Kd.R_lt (by (with_reducible repeat (first | apply Kd.R_alloc | apply Kd.R_drewN | apply Kd.R_drew)); exact HO_5.out)) k_ hk, Kd.fresh' (Kd.R_lt (by (with_reducible repeat (first | apply Kd.R_alloc | apply Kd.R_drewN | apply Kd.R_drew)); exact HO116.out)) k_ hk⟩))
           (case aO => exact (by (with_reducible repeat (first | apply Kd.R_alloc | apply Kd.R_drewN | apply Kd.R_drew)); exact HO126.out))
           (case aS => exact (below_size (by repeat (first | exact HB.out | apply bA | apply bD | apply bE))))
           (case aL => have := LMc25.out; omega)
           intro v132 w36 ho hb hg hat
           rw [← Ny131.out] at ho
           have n0_ := Ak (Kd.R_after (ok := (fun k_ => some k_ ≠ (.slice Ao29 t104.length co29 : Value).ownBlock ∧ some k_ ≠ (.slice Ao26 x5_1.length co26 : Value).ownBlock ∧ some k_ ≠ (.slice Ao31 t114.length co31 : Value).ownBlock)) (by (with_reducible repeat (first | apply Kd.R_alloc | apply Kd.R_drewN | apply Kd.R_drew)); exact HO_3.out) hg hat)
           have n1_ := Ak (Kd.R_after (ok := (fun k_ => some k_ ≠ (.slice Ao8 t101.length co8 : Value).ownBlock ∧ some k_ ≠ (.slice Ao26 x5_1.length co26 : Value).ownBlock ∧ some k_ ≠ (.slice Ao31 t114.length co31 : Value).ownBlock)) (by (with_reducible repeat (first | apply Kd.R_alloc | apply Kd.R_drewN | apply Kd.R_drew)); exact HO_4.out) hg hat)
           have n2_ := Ak (Kd.R_after (ok := (fun k_ => some k_ ≠ (.slice Ao8 t101.length co8 : Value).ownBlock ∧ some k_ ≠ (.slice Ao29 t104.length co29 : Value).ownBlock ∧ some k_ ≠ (.slice Ao31 t114.length co31 : Value).ownBlock)) (by (with_reducible repeat (first | apply Kd.R_alloc | apply Kd.R_drewN | apply Kd.R_drew)); exact HO_5.out) hg hat)
           have n3_ := Ak (Kd.R_after (ok := (fun k_ => some k_ ≠ (.slice Ao8 t101.length co8 : Value).ownBlock ∧ some k_ ≠ (.slice Ao29 t104.length co29 : Value).ownBlock ∧ some k_ ≠ (.slice Ao26 x5_1.length co26 : Value).ownBlock)) (by (with_reducible repeat (first | apply Kd.R_alloc | apply Kd.R_drewN | apply Kd.R_drew)); exact HO116.out) hg hat)
           have n4_ := Ak (hb)
           have n5_ := Ak ((show Kd.C k44 w36 Ao29 y120.length y120 from by rw [Ny120.out]; exact Kd.C_take (m := ((ji18) : Int).toNat) ((Kd.R_reads' (Kd.R_after (ok := (fun k_ => some k_ ≠ (.slice Ao8 t101.length co8 : Value).ownBlock ∧ some k_ ≠ (.slice Ao26 x5_1.length co26 : Value).ownBlock ∧ some k_ ≠ (.slice Ao31 t114.length co31 : Value).ownBlock)) (by (with_reducible repeat (first | apply Kd.R_alloc | apply Kd.R_drewN | apply Kd.R_drew)); exact HO_4.out) hg hat)).2.2) KL30.out))
           have n6_ := Ak ((show Kd.C k44 w36 Ao31 y127.length y127 from by rw [Ny127.out]; exact Kd.C_take (m := ((ji22) : Int).toNat) ((Kd.R_reads' (Kd.R_after (ok := (fun k_ => some k_ ≠ (.slice Ao8 t101.length co8 : Value).ownBlock ∧ some k_ ≠ (.slice Ao29 t104.length co29 : Value).ownBlock ∧ some k_ ≠ (.slice Ao26 x5_1.length co26 : Value).ownBlock)) (by (with_reducible repeat (first | apply Kd.R_alloc | apply Kd.R_drewN | apply Kd.R_drew)); exact HO116.out) hg hat)).2.2) KL32.out))
           have n7_ := Ak (ho)
           clear HO_3
           clear HO_4
           clear HO_5
           clear HO116
           clear HB
           clear HR123
           clear HR130
           clear HO126
           have HO_3 := n0_
           have HO_4 := n1_
           have HO_5 := n2_
           have HO116 := n3_
           have HB := n4_
           have HR123 := n5_
           have HR130 := n6_
           have HO133 := n7_
           clear n0_ n1_ n2_ n3_ n4_ n5_ n6_ n7_
           clear ho hb hg hat
           refine hK.out _ _ trivial (fun hHeld => ?_)
           clear hK K
           refine norm_ (a' := ?_) ?_ ?_
           rotate_left
           ·show Act.put _ (some 44) _ = _
            simp only [Act.put, sA, sB, sC, sD, sE]
            rfl
           refine pure_ (i := 13) (N := some 2) (v := ?_) (a' := ?_) #[T,T,T,T,T,T,T,T,T,T,T,T,T,T] rfl rfl (any_of HT_.out (by kernel_rfl)) (fun _ _ _ h => h) (Or.inl ⟨by rfl, ?_⟩) ?_ ?_
           rotate_left
           ·intro w'
            go_simp
            with_reducible rfl
           rotate_left
           ·simp only [Act.put, sA, sB, sC, sD, sE]
            rfl
           refine done_ (done_of HT_.out (by kernel_rfl)) ?_
           try go_wp2
           go_ret
           exact ⟨_, by first | rfl | (simp [errW_none, errW_some] <;> rfl) | (simp only [← hji18, ← hji22]; first | rfl | (simp [errW_none, errW_some] <;> rfl)) | (simp [*, errW_none, errW_some] <;> rfl), by (with_reducible repeat (first | apply Kd.R_alloc | apply Kd.R_drewN | apply Kd.R_drew)); exact Kd.R_mono HO133.out (fun _ hk => trivial), by repeat (first | (with_reducible first | exact HB.out | apply bA | apply bD | apply bE) | exact HB.out)⟩
          ·rw [if_neg c25] at H
           exact absurd H (by simp)
         ·rw [if_neg c24] at H
          exact absurd H (by simp)
        ·rw [if_neg c23] at H
         exact absurd H (by simp)
       ·rw [if_neg c21] at H
        exact absurd H (by simp)
      ·rw [if_neg c20] at H
       exact absurd H (by simp)
     ·rw [if_neg c19] at H
      exact absurd H (by simp)

end Go.Proofs.Ytbhnmofbbnimaaa.G
