/- A Go function as a plain Lean function, and the proof that Go's call comes to its answer. No conditions but those in the theorem. Written by gen.py (a program of this session over the kit's print). -/
-- SHRUNK by pack.py
import Derived.Test.YtlccpkggdmngaaaG0
import Derived.Test.YtlccpkggdmngaaaFA
import Derived.Test.YtlccpkggdmngaaaF79
namespace Go.Proofs.Ytlccpkggdmngaaa.G
open Go.RowKit Go.Proofs.YtlccpkggdmngaaaW.PrintWords Go.Proofs.YtlccpkggdmngaaaW.PrintLast Go.Proofs.YtlccpkggdmngaaaW.PrintMore Go.Proofs.YtlccpkggdmngaaaW.PrintBits
attribute [local go_sem] max2_int min2_int max_two min_two max_three min_three max_four min_four   -- for this text's walks alone
set_option linter.unusedVariables false
set_option linter.unusedSimpArgs false

/-! ### spec_l05Area: function 78 -/
def spec_l05Area.f (l0 : List (S27)) (l1 : List Int) : Option (Int) := if 0 < (l1.length : Int) then (if 0 ≤ (rd l1 0) then (if (rd l1 0) < (l0.length : Int) then (if 1 < (l1.length : Int) then (if 0 ≤ (rd l1 1) then (if (rd l1 1) < (l0.length : Int) then (if 2 < (l1.length : Int) then (if 0 ≤ (rd l1 2) then (if (rd l1 2) < (l0.length : Int) then ((spec_l02Cross.f ((rd_T27 l0 (rd l1 0)).f0) ((rd_T27 l0 (rd l1 0)).f1) ((rd_T27 l0 (rd l1 1)).f0) ((rd_T27 l0 (rd l1 1)).f1) ((rd_T27 l0 (rd l1 2)).f0) ((rd_T27 l0 (rd l1 2)).f1)).bind fun t107 => ((spec_l04Mag.f t107).bind fun t108 => (some t108))) else (none)) else (none)) else (none)) else (none)) else (none)) else (none)) else (none)) else (none)) else (none)
def spec_l05Area.T1 : Bool × List (List Nat × List Nat) := (true, [([], []), ([], []), ([1], [1]), ([2], [2]), ([0, 3], [0, 3]), ([4], [4]), ([], []), ([], []), ([7], [7]), ([8], [8]), ([6, 9], [6, 9]), ([10], [10]), ([], []), ([], []), ([13], [13]), ([14], [14]), ([12, 15], [12, 15]), ([16], [16]), ([5, 11, 17], [5, 11, 17]), ([18, 18], [18]), ([19, 19, 0, 1, 2, 3, 4, 5, 6, 7, 8, 9, 10, 11, 12, 13, 14, 15, 16, 17, 18, 19], [19])])
def spec_l05Area.B1 : List Nat := [0, 0, 2, 6, 15, 31, 0, 0, 128, 384, 960, 1984, 0, 0, 8192, 24576, 61440, 126976, 262143, 524287, 1048575]
theorem spec_l05Area.tab1 : rtab .any (opsOf Try.f78 1) = spec_l05Area.T1 := by kernel_rfl
theorem spec_l05Area.bits1 : waitsOk spec_l05Area.T1.2 spec_l05Area.B1 = true := by kernel_rfl
set_option maxHeartbeats 8000000 in
set_option maxRecDepth 100000 in
theorem spec_l05Area.calls (A0 : Option Addr) (c0 : Nat) (l0 : List (S27)) (A1 : Option Addr) (c1 : Nat) (l1 : List Int) (r : Int) (w : World) (hr0 : Kd.C k27 w A0 l0.length l0) (hc0 : l0.length ≤ c0) (hr1 : Kd.C (Kd.int .i64) w A1 l1.length l1) (hc1 : l1.length ≤ c1) (h : spec_l05Area.f l0 l1 = some r) :
  Calls Try.prog 78 #[.slice A0 l0.length c0, .slice A1 l1.length c1] w fun e w' => e = .returned (.int .i64 r) ∧ Below w.heap.size w w' := by
 have hu27 := Try.underlying27; have HR0 := Ak hr0; have HC0 := Ak hc0; clear hr0 hc0; have HR1 := Ak hr1; have HC1 := Ak hc1; clear hr1 hc1; have HB := Ak (Below.refl w.heap.size w); have H : (if 0 < (l1.length : Int) then (if 0 ≤ (rd l1 0) then (if (rd l1 0) < (l0.length : Int) then (if 1 < (l1.length : Int) then (if 0 ≤ (rd l1 1) then (if (rd l1 1) < (l0.length : Int) then (if 2 < (l1.length : Int) then (if 0 ≤ (rd l1 2) then (if (rd l1 2) < (l0.length : Int) then ((spec_l02Cross.f ((rd_T27 l0 (rd l1 0)).f0) ((rd_T27 l0 (rd l1 0)).f1) ((rd_T27 l0 (rd l1 1)).f0) ((rd_T27 l0 (rd l1 1)).f1) ((rd_T27 l0 (rd l1 2)).f0) ((rd_T27 l0 (rd l1 2)).f1)).bind fun t107 => ((spec_l04Mag.f t107).bind fun t108 => (some t108))) else (none)) else (none)) else (none)) else (none)) else (none)) else (none)) else (none)) else (none)) else (none)) = some r := h; clear h
 by_cases c3 : 0 < (l1.length : Int)
 ·rw [if_pos c3] at H; have c3b0 : decide (0 < (l1.length : Int)) = true := decide_eq_true c3; have c3b1 : decide (0 < l1.length) = true := decide_eq_true (by omega); clear c3
  by_cases c4 : 0 ≤ (rd l1 0)
  ·rw [if_pos c4] at H; have c4b0 : decide (0 ≤ (rd l1 0)) = true := decide_eq_true c4; clear c4
   by_cases c5 : (rd l1 0) < (l0.length : Int)
   ·rw [if_pos c5] at H; have c5b0 : decide ((rd l1 0) < (l0.length : Int)) = true := decide_eq_true c5; clear c5
    by_cases c6 : 1 < (l1.length : Int)
    ·rw [if_pos c6] at H; have c6b0 : decide (1 < (l1.length : Int)) = true := decide_eq_true c6; have c6b1 : decide (1 < l1.length) = true := decide_eq_true (by omega); clear c6
     by_cases c7 : 0 ≤ (rd l1 1)
     ·rw [if_pos c7] at H; have c7b0 : decide (0 ≤ (rd l1 1)) = true := decide_eq_true c7; clear c7
      by_cases c8 : (rd l1 1) < (l0.length : Int)
      ·rw [if_pos c8] at H; have c8b0 : decide ((rd l1 1) < (l0.length : Int)) = true := decide_eq_true c8; clear c8
       by_cases c9 : 2 < (l1.length : Int)
       ·rw [if_pos c9] at H; have c9b0 : decide (2 < (l1.length : Int)) = true := decide_eq_true c9; have c9b1 : decide (2 < l1.length) = true := decide_eq_true (by omega); clear c9
        by_cases c10 : 0 ≤ (rd l1 2)
        ·rw [if_pos c10] at H; have c10b0 : decide (0 ≤ (rd l1 2)) = true := decide_eq_true c10; clear c10
         by_cases c11 : (rd l1 2) < (l0.length : Int)
         ·rw [if_pos c11] at H; have c11b0 : decide ((rd l1 2) < (l0.length : Int)) = true := decide_eq_true c11; clear c11; replace H := Option.bind_eq_some_iff.mp H; obtain ⟨t107, A120, H⟩ := H; replace H : ((spec_l04Mag.f t107).bind fun t108 => (some t108)) = some r := H; have A12 := Ak A120; clear A120; replace H := Option.bind_eq_some_iff.mp H; obtain ⟨t108, A130, H⟩ := H; replace H : (some t108) = some r := H; have A13 := Ak A130; clear A130; obtain rfl := Option.some.inj H
          go_enter Try.func78, Try.ntmps78
          try go_wp2
          have n0_ := Ak (below_drew1 HB.out); clear HB; have HB := n0_; clear n0_; have p101 : 0 ≤ (0 : Int) := (by omega); have q101 : 0 < (l1.length : Int) := of_decide_eq_true (by first | (with_reducible assumption) | assumption); obtain ⟨ad101, e101, hx101_0⟩ := Kd.at_int HR1.out 0 p101 q101; have hw101_0 := hx101_0; (try rw [show ((0 : Int)).toNat = 0 from rfl] at hw101_0); (try rw [show 0 * 1 = 0 from rfl] at hw101_0); (try rw [Addr.add_zero'] at hw101_0); cases e101; have qi101 : (0 < l1.length) = True := eq_true (by omega); (try rw [show ((0 : Int)).toNat = 0 from rfl] at hx101_0); (try rw [Addr.add_zero'] at hx101_0); replace hx101_0 := cB HB.out hx101_0; replace p101 := eq_true p101; replace q101 := eq_true q101; have p102 : 0 ≤ ((rd l1 0) : Int) := of_decide_eq_true (by first | (with_reducible assumption) | assumption); have q102 : (rd l1 0) < (l0.length : Int) := of_decide_eq_true (by first | (with_reducible assumption) | assumption); obtain ⟨ad102, e102, hx102_0, hx102_1⟩ := at_T27 HR0.out (rd l1 0) p102 q102; have hw102_1 := hx102_1; have hw102_0 := hx102_0; cases e102; replace hx102_0 := cB HB.out hx102_0; replace hx102_1 := cB HB.out hx102_1; replace p102 := eq_true p102; replace q102 := eq_true q102; have p103 : 0 ≤ (1 : Int) := (by omega); have q103 : 1 < (l1.length : Int) := of_decide_eq_true (by first | (with_reducible assumption) | assumption); obtain ⟨ad103, e103, hx103_0⟩ := Kd.at_int HR1.out 1 p103 q103; have hw103_0 := hx103_0; (try rw [show ((1 : Int)).toNat = 1 from rfl] at hw103_0); (try rw [show 1 * 1 = 1 from rfl] at hw103_0); (try simp only [Nat.reduceMul, Nat.reduceEqDiff, Go.Addr.add, ↓reduceIte] at hw103_0); obtain rfl : ad101 = ad103 := (by injection e103); (try simp only [show (1 : Int).toNat = 1 from rfl, Nat.reduceMul, Nat.reduceEqDiff, Go.Addr.add, ↓reduceIte] at hx103_0); have qi103 : (1 < l1.length) = True := eq_true (by omega); (try rw [show ((1 : Int)).toNat = 1 from rfl] at hx103_0); replace hx103_0 := cB HB.out hx103_0; replace p103 := eq_true p103; replace q103 := eq_true q103; have p104 : 0 ≤ ((rd l1 1) : Int) := of_decide_eq_true (by first | (with_reducible assumption) | assumption); have q104 : (rd l1 1) < (l0.length : Int) := of_decide_eq_true (by first | (with_reducible assumption) | assumption); obtain ⟨ad104, e104, hx104_0, hx104_1⟩ := at_T27 HR0.out (rd l1 1) p104 q104; have hw104_1 := hx104_1; have hw104_0 := hx104_0; obtain rfl : ad102 = ad104 := (by injection e104); replace hx104_0 := cB HB.out hx104_0; replace hx104_1 := cB HB.out hx104_1; replace p104 := eq_true p104; replace q104 := eq_true q104; have p105 : 0 ≤ (2 : Int) := (by omega); have q105 : 2 < (l1.length : Int) := of_decide_eq_true (by first | (with_reducible assumption) | assumption); obtain ⟨ad105, e105, hx105_0⟩ := Kd.at_int HR1.out 2 p105 q105; have hw105_0 := hx105_0; (try rw [show ((2 : Int)).toNat = 2 from rfl] at hw105_0); (try rw [show 2 * 1 = 2 from rfl] at hw105_0); (try simp only [Nat.reduceMul, Nat.reduceEqDiff, Go.Addr.add, ↓reduceIte] at hw105_0); obtain rfl : ad101 = ad105 := (by injection e105); (try simp only [show (2 : Int).toNat = 2 from rfl, Nat.reduceMul, Nat.reduceEqDiff, Go.Addr.add, ↓reduceIte] at hx105_0); have qi105 : (2 < l1.length) = True := eq_true (by omega); (try rw [show ((2 : Int)).toNat = 2 from rfl] at hx105_0); replace hx105_0 := cB HB.out hx105_0; replace p105 := eq_true p105; replace q105 := eq_true q105; have p106 : 0 ≤ ((rd l1 2) : Int) := of_decide_eq_true (by first | (with_reducible assumption) | assumption); have q106 : (rd l1 2) < (l0.length : Int) := of_decide_eq_true (by first | (with_reducible assumption) | assumption); obtain ⟨ad106, e106, hx106_0, hx106_1⟩ := at_T27 HR0.out (rd l1 2) p106 q106; have hw106_1 := hx106_1; have hw106_0 := hx106_0; obtain rfl : ad102 = ad106 := (by injection e106); replace hx106_0 := cB HB.out hx106_0; replace hx106_1 := cB HB.out hx106_1; replace p106 := eq_true p106; replace q106 := eq_true q106; refine start_ (n := 21) (S := fun w' => w'.cell? ad101 = some (.int .i64 (rd l1 0)) ∧ w'.cell? (ad102.add (((rd l1 0)).toNat * 2)) = some (.int .i64 ((rd_T27 l0 (rd l1 0)).f0)) ∧ w'.cell? ⟨(ad102.add (((rd l1 0)).toNat * 2)).block, (ad102.add (((rd l1 0)).toNat * 2)).off + 1, none⟩ = some (.int .i64 ((rd_T27 l0 (rd l1 0)).f1)) ∧ w'.cell? ⟨ad101.block, ad101.off + 1, none⟩ = some (.int .i64 (rd l1 1)) ∧ w'.cell? (ad102.add (((rd l1 1)).toNat * 2)) = some (.int .i64 ((rd_T27 l0 (rd l1 1)).f0)) ∧ w'.cell? ⟨(ad102.add (((rd l1 1)).toNat * 2)).block, (ad102.add (((rd l1 1)).toNat * 2)).off + 1, none⟩ = some (.int .i64 ((rd_T27 l0 (rd l1 1)).f1)) ∧ w'.cell? ⟨ad101.block, ad101.off + 2, none⟩ = some (.int .i64 (rd l1 2)) ∧ w'.cell? (ad102.add (((rd l1 2)).toNat * 2)) = some (.int .i64 ((rd_T27 l0 (rd l1 2)).f0)) ∧ w'.cell? ⟨(ad102.add (((rd l1 2)).toNat * 2)).block, (ad102.add (((rd l1 2)).toNat * 2)).off + 1, none⟩ = some (.int .i64 ((rd_T27 l0 (rd l1 2)).f1))) (ds := []) #[F,F,F,F,F,F,F,F,F,F,F,F,F,F,F,F,F,F,F,F,F] (by kernel_rfl) rfl rfl ⟨((HB.out.cell (World.block_lt_of_cell? w _ hw101_0)).trans hw101_0), ((HB.out.cell (World.block_lt_of_cell? w _ hw102_0)).trans hw102_0), ((HB.out.cell (World.block_lt_of_cell? w _ hw102_1)).trans hw102_1), ((HB.out.cell (World.block_lt_of_cell? w _ hw103_0)).trans hw103_0), ((HB.out.cell (World.block_lt_of_cell? w _ hw104_0)).trans hw104_0), ((HB.out.cell (World.block_lt_of_cell? w _ hw104_1)).trans hw104_1), ((HB.out.cell (World.block_lt_of_cell? w _ hw105_0)).trans hw105_0), ((HB.out.cell (World.block_lt_of_cell? w _ hw106_0)).trans hw106_0), ((HB.out.cell (World.block_lt_of_cell? w _ hw106_1)).trans hw106_1)⟩ (fun hHeld => ?_); refine with_tabW spec_l05Area.tab1 spec_l05Area.bits1 (fun HT_ HW_ => ?_); generalize w.drew = w14 at HB hx101_0 hx102_0 hx102_1 hx103_0 hx104_0 hx104_1 hx105_0 hx106_0 hx106_1 hHeld ⊢; refine pure_ (i := 0) (N := some 5) (v := ?_) (a' := ?_) #[T,F,F,F,F,F,F,F,F,F,F,F,F,F,F,F,F,F,F,F,F] rfl rfl (any_of HT_.out (by kernel_rfl)) (fun _ _ _ h => h) (Or.inl ⟨by rfl, ?_⟩) ?_ ?_; rotate_left
          ·intro w'; go_simp; with_reducible rfl
          rotate_left
          ·simp only [Act.put, sA, sB, sC, sD, sE]; rfl
          refine pure_ (i := 1) (N := some 6) (v := ?_) (a' := ?_) #[T,T,F,F,F,F,F,F,F,F,F,F,F,F,F,F,F,F,F,F,F] rfl rfl (any_of HT_.out (by kernel_rfl)) (fun _ _ _ h => h) (Or.inl ⟨by rfl, ?_⟩) ?_ ?_; rotate_left
          ·intro w'; go_simp; with_reducible rfl
          rotate_left
          ·simp only [Act.put, sA, sB, sC, sD, sE]; rfl
          refine pure_ (i := 2) (N := some 7) (v := ?_) (a' := ?_) #[T,T,T,F,F,F,F,F,F,F,F,F,F,F,F,F,F,F,F,F,F] rfl rfl (any_of HT_.out (by kernel_rfl)) (fun _ _ _ h => h) (Or.inl ⟨by rfl, ?_⟩) ?_ ?_; rotate_left
          ·intro w'; go_simp; with_reducible rfl
          rotate_left
          ·simp only [Act.put, sA, sB, sC, sD, sE]; rfl
          refine pure_ (i := 6) (N := some 11) (v := ?_) (a' := ?_) #[T,T,T,F,F,F,T,F,F,F,F,F,F,F,F,F,F,F,F,F,F] rfl rfl (any_of HT_.out (by kernel_rfl)) (fun _ _ _ h => h) (Or.inl ⟨by rfl, ?_⟩) ?_ ?_; rotate_left
          ·intro w'; go_simp; with_reducible rfl
          rotate_left
          ·simp only [Act.put, sA, sB, sC, sD, sE]; rfl
          refine pure_ (i := 7) (N := some 12) (v := ?_) (a' := ?_) #[T,T,T,F,F,F,T,T,F,F,F,F,F,F,F,F,F,F,F,F,F] rfl rfl (any_of HT_.out (by kernel_rfl)) (fun _ _ _ h => h) (Or.inl ⟨by rfl, ?_⟩) ?_ ?_; rotate_left
          ·intro w'; go_simp; with_reducible rfl
          rotate_left
          ·simp only [Act.put, sA, sB, sC, sD, sE]; rfl
          refine pure_ (i := 8) (N := some 13) (v := ?_) (a' := ?_) #[T,T,T,F,F,F,T,T,T,F,F,F,F,F,F,F,F,F,F,F,F] rfl rfl (any_of HT_.out (by kernel_rfl)) (fun _ _ _ h => h) (Or.inl ⟨by rfl, ?_⟩) ?_ ?_; rotate_left
          ·intro w'; go_simp; with_reducible rfl
          rotate_left
          ·simp only [Act.put, sA, sB, sC, sD, sE]; rfl
          refine pure_ (i := 12) (N := some 17) (v := ?_) (a' := ?_) #[T,T,T,F,F,F,T,T,T,F,F,F,T,F,F,F,F,F,F,F,F] rfl rfl (any_of HT_.out (by kernel_rfl)) (fun _ _ _ h => h) (Or.inl ⟨by rfl, ?_⟩) ?_ ?_; rotate_left
          ·intro w'; go_simp; with_reducible rfl
          rotate_left
          ·simp only [Act.put, sA, sB, sC, sD, sE]; rfl
          refine pure_ (i := 13) (N := some 18) (v := ?_) (a' := ?_) #[T,T,T,F,F,F,T,T,T,F,F,F,T,T,F,F,F,F,F,F,F] rfl rfl (any_of HT_.out (by kernel_rfl)) (fun _ _ _ h => h) (Or.inl ⟨by rfl, ?_⟩) ?_ ?_; rotate_left
          ·intro w'; go_simp; with_reducible rfl
          rotate_left
          ·simp only [Act.put, sA, sB, sC, sD, sE]; rfl
          refine pure_ (i := 14) (N := some 19) (v := ?_) (a' := ?_) #[T,T,T,F,F,F,T,T,T,F,F,F,T,T,T,F,F,F,F,F,F] rfl rfl (any_of HT_.out (by kernel_rfl)) (fun _ _ _ h => h) (Or.inl ⟨by rfl, ?_⟩) ?_ ?_; rotate_left
          ·intro w'; go_simp; with_reducible rfl
          rotate_left
          ·simp only [Act.put, sA, sB, sC, sD, sE]; rfl
          refine take_ (i := 3) (N := some 8) (v := ?_) (a' := ?_) #[T,T,T,T,F,F,T,T,T,F,F,F,T,T,T,F,F,F,F,F,F] rfl rfl (take_ofW HT_.out HW_.out (by kernel_rfl)) (fun _ _ _ h => h) (Or.inl ⟨by rfl, ?_⟩) hHeld ?_ ?_; rotate_left
          ·rintro w' ⟨s0, s1, s2, s3, s4, s5, s6, s7, s8⟩; go_simp; with_reducible rfl
          rotate_left
          ·simp only [Act.put, sA, sB, sC, sD, sE]; rfl
          refine pure_ (i := 4) (N := some 9) (v := ?_) (a' := ?_) #[T,T,T,T,T,F,T,T,T,F,F,F,T,T,T,F,F,F,F,F,F] rfl rfl (any_of HT_.out (by kernel_rfl)) (fun _ _ _ h => h) (Or.inl ⟨by rfl, ?_⟩) ?_ ?_; rotate_left
          ·intro w'; go_simp; with_reducible rfl
          rotate_left
          ·simp only [Act.put, sA, sB, sC, sD, sE]; rfl
          refine take_ (i := 5) (N := some 10) (v := ?_) (a' := ?_) #[T,T,T,T,T,T,T,T,T,F,F,F,T,T,T,F,F,F,F,F,F] rfl rfl (take_ofW HT_.out HW_.out (by kernel_rfl)) (fun _ _ _ h => h) (Or.inl ⟨by rfl, ?_⟩) hHeld ?_ ?_; rotate_left
          ·rintro w' ⟨s0, s1, s2, s3, s4, s5, s6, s7, s8⟩; go_simp; with_reducible rfl
          rotate_left
          ·simp only [Act.put, sA, sB, sC, sD, sE]; rfl
          refine take_ (i := 9) (N := some 14) (v := ?_) (a' := ?_) #[T,T,T,T,T,T,T,T,T,T,F,F,T,T,T,F,F,F,F,F,F] rfl rfl (take_ofW HT_.out HW_.out (by kernel_rfl)) (fun _ _ _ h => h) (Or.inl ⟨by rfl, ?_⟩) hHeld ?_ ?_; rotate_left
          ·rintro w' ⟨s0, s1, s2, s3, s4, s5, s6, s7, s8⟩; go_simp; with_reducible rfl
          rotate_left
          ·simp only [Act.put, sA, sB, sC, sD, sE]; rfl
          refine pure_ (i := 10) (N := some 15) (v := ?_) (a' := ?_) #[T,T,T,T,T,T,T,T,T,T,T,F,T,T,T,F,F,F,F,F,F] rfl rfl (any_of HT_.out (by kernel_rfl)) (fun _ _ _ h => h) (Or.inl ⟨by rfl, ?_⟩) ?_ ?_; rotate_left
          ·intro w'; go_simp; with_reducible rfl
          rotate_left
          ·simp only [Act.put, sA, sB, sC, sD, sE]; rfl
          refine take_ (i := 11) (N := some 16) (v := ?_) (a' := ?_) #[T,T,T,T,T,T,T,T,T,T,T,T,T,T,T,F,F,F,F,F,F] rfl rfl (take_ofW HT_.out HW_.out (by kernel_rfl)) (fun _ _ _ h => h) (Or.inl ⟨by rfl, ?_⟩) hHeld ?_ ?_; rotate_left
          ·rintro w' ⟨s0, s1, s2, s3, s4, s5, s6, s7, s8⟩; go_simp; with_reducible rfl
          rotate_left
          ·simp only [Act.put, sA, sB, sC, sD, sE]; rfl
          refine take_ (i := 15) (N := some 20) (v := ?_) (a' := ?_) #[T,T,T,T,T,T,T,T,T,T,T,T,T,T,T,T,F,F,F,F,F] rfl rfl (take_ofW HT_.out HW_.out (by kernel_rfl)) (fun _ _ _ h => h) (Or.inl ⟨by rfl, ?_⟩) hHeld ?_ ?_; rotate_left
          ·rintro w' ⟨s0, s1, s2, s3, s4, s5, s6, s7, s8⟩; go_simp; with_reducible rfl
          rotate_left
          ·simp only [Act.put, sA, sB, sC, sD, sE]; rfl
          refine pure_ (i := 16) (N := some 21) (v := ?_) (a' := ?_) #[T,T,T,T,T,T,T,T,T,T,T,T,T,T,T,T,T,F,F,F,F] rfl rfl (any_of HT_.out (by kernel_rfl)) (fun _ _ _ h => h) (Or.inl ⟨by rfl, ?_⟩) ?_ ?_; rotate_left
          ·intro w'; go_simp; with_reducible rfl
          rotate_left
          ·simp only [Act.put, sA, sB, sC, sD, sE]; rfl
          refine take_ (i := 17) (N := some 22) (v := ?_) (a' := ?_) #[T,T,T,T,T,T,T,T,T,T,T,T,T,T,T,T,T,T,F,F,F] rfl rfl (take_ofW HT_.out HW_.out (by kernel_rfl)) (fun _ _ _ h => h) (Or.inl ⟨by rfl, ?_⟩) hHeld ?_ ?_; rotate_left
          ·rintro w' ⟨s0, s1, s2, s3, s4, s5, s6, s7, s8⟩; go_simp; with_reducible rfl
          rotate_left
          ·simp only [Act.put, sA, sB, sC, sD, sE]; rfl
          refine one_ (i := 18) (N := some 23) #[T,T,T,T,T,T,T,T,T,T,T,T,T,T,T,T,T,T,T,F,F] rfl rfl (one_of HT_.out (by kernel_rfl)) (by decide) (fun K hK => ?_); refine goes_ Try.func104 (by kernel_rfl) rfl #[.agg #[.int .i64 ((rd_T27 l0 (rd l1 0)).f0), .int .i64 ((rd_T27 l0 (rd l1 0)).f1)], .agg #[.int .i64 ((rd_T27 l0 (rd l1 1)).f0), .int .i64 ((rd_T27 l0 (rd l1 1)).f1)], .agg #[.int .i64 ((rd_T27 l0 (rd l1 2)).f0), .int .i64 ((rd_T27 l0 (rd l1 2)).f1)]] (by rfl) rfl rfl (by (try simp only [List.map_toArray, List.map_cons, List.map_nil]); first | done | rfl | (simp only [List.length_drop, List.length_take]; rfl)) ?_
          with_reducible refine (spec_l02Cross.calls ((rd_T27 l0 (rd l1 0)).f0) ((rd_T27 l0 (rd l1 0)).f1) ((rd_T27 l0 (rd l1 1)).f0) ((rd_T27 l0 (rd l1 1)).f1) ((rd_T27 l0 (rd l1 2)).f0) ((rd_T27 l0 (rd l1 2)).f1) t107 _ A12.out).mono ?_
          rintro e w15 ⟨rfl, hb⟩; refine ⟨_, rfl, ?_⟩; have n0_ := Ak (below_step (by repeat (first | exact HB.out | apply bA | apply bD | apply bE)) hb); clear HB; have HB := n0_; clear n0_; (try clear hb); (try clear hb2); (try clear hk); (try clear hi); refine hK.out _ _ ⟨((HB.out.cell (World.block_lt_of_cell? w _ hw101_0)).trans hw101_0), ((HB.out.cell (World.block_lt_of_cell? w _ hw102_0)).trans hw102_0), ((HB.out.cell (World.block_lt_of_cell? w _ hw102_1)).trans hw102_1), ((HB.out.cell (World.block_lt_of_cell? w _ hw103_0)).trans hw103_0), ((HB.out.cell (World.block_lt_of_cell? w _ hw104_0)).trans hw104_0), ((HB.out.cell (World.block_lt_of_cell? w _ hw104_1)).trans hw104_1), ((HB.out.cell (World.block_lt_of_cell? w _ hw105_0)).trans hw105_0), ((HB.out.cell (World.block_lt_of_cell? w _ hw106_0)).trans hw106_0), ((HB.out.cell (World.block_lt_of_cell? w _ hw106_1)).trans hw106_1)⟩ (fun hHeld => ?_); clear hK K; refine norm_ (a' := ?_) ?_ ?_; rotate_left
          ·show Act.put _ (some 23) _ = _; simp only [Act.put, sA, sB, sC, sD, sE]; rfl
          refine one_ (i := 19) (N := some 24) #[T,T,T,T,T,T,T,T,T,T,T,T,T,T,T,T,T,T,T,T,F] rfl rfl (one_of HT_.out (by kernel_rfl)) (by decide) (fun K hK => ?_); refine goes_ Try.func79 (by kernel_rfl) rfl #[.int .i64 t107] (by rfl) rfl rfl (by (try simp only [List.map_toArray, List.map_cons, List.map_nil]); first | done | rfl | (simp only [List.length_drop, List.length_take]; rfl)) ?_
          with_reducible refine (spec_l04Mag.calls t107 t108 _ A13.out).mono ?_
          rintro e w16 ⟨rfl, hb⟩; refine ⟨_, rfl, ?_⟩; have n0_ := Ak (below_step (by repeat (first | exact HB.out | apply bA | apply bD | apply bE)) hb); clear HB; have HB := n0_; clear n0_; (try clear hb); (try clear hb2); (try clear hk); (try clear hi); refine hK.out _ _ ⟨((HB.out.cell (World.block_lt_of_cell? w _ hw101_0)).trans hw101_0), ((HB.out.cell (World.block_lt_of_cell? w _ hw102_0)).trans hw102_0), ((HB.out.cell (World.block_lt_of_cell? w _ hw102_1)).trans hw102_1), ((HB.out.cell (World.block_lt_of_cell? w _ hw103_0)).trans hw103_0), ((HB.out.cell (World.block_lt_of_cell? w _ hw104_0)).trans hw104_0), ((HB.out.cell (World.block_lt_of_cell? w _ hw104_1)).trans hw104_1), ((HB.out.cell (World.block_lt_of_cell? w _ hw105_0)).trans hw105_0), ((HB.out.cell (World.block_lt_of_cell? w _ hw106_0)).trans hw106_0), ((HB.out.cell (World.block_lt_of_cell? w _ hw106_1)).trans hw106_1)⟩ (fun hHeld => ?_); clear hK K; refine norm_ (a' := ?_) ?_ ?_; rotate_left
          ·show Act.put _ (some 24) _ = _; simp only [Act.put, sA, sB, sC, sD, sE]; rfl
          refine pure_ (i := 20) (N := some 4) (v := ?_) (a' := ?_) #[T,T,T,T,T,T,T,T,T,T,T,T,T,T,T,T,T,T,T,T,T] rfl rfl (any_of HT_.out (by kernel_rfl)) (fun _ _ _ h => h) (Or.inl ⟨by rfl, ?_⟩) ?_ ?_; rotate_left
          ·intro w'; go_simp; with_reducible rfl
          rotate_left
          ·simp only [Act.put, sA, sB, sC, sD, sE]; rfl
          refine done_ (done_of HT_.out (by kernel_rfl)) ?_
          try go_wp2
          go_ret
          exact ⟨by first | rfl | (simp [*, errW_none, errW_some] <;> rfl), by repeat (first | (with_reducible first | exact HB.out | apply bA | apply bD | apply bE) | exact HB.out)⟩
         ·rw [if_neg c11] at H; exact absurd H (by simp)
        ·rw [if_neg c10] at H; exact absurd H (by simp)
       ·rw [if_neg c9] at H; exact absurd H (by simp)
      ·rw [if_neg c8] at H; exact absurd H (by simp)
     ·rw [if_neg c7] at H; exact absurd H (by simp)
    ·rw [if_neg c6] at H; exact absurd H (by simp)
   ·rw [if_neg c5] at H; exact absurd H (by simp)
  ·rw [if_neg c4] at H; exact absurd H (by simp)
 ·rw [if_neg c3] at H; exact absurd H (by simp)

end Go.Proofs.Ytlccpkggdmngaaa.G
