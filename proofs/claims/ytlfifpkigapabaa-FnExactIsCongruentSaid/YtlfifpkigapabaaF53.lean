/- A Go function as a plain Lean function, and the proof that Go's call comes to its answer. No conditions but those in the theorem. Written by gen.py (a program of this session over the kit's print). -/
-- SHRUNK by pack.py
import Derived.Test.YtlfifpkigapabaaG0
namespace Go.Proofs.Ytlfifpkigapabaa.G
open Go.RowKit Go.Proofs.YtlfifpkigapabaaW.PrintWords Go.Proofs.YtlfifpkigapabaaW.PrintLast Go.Proofs.YtlfifpkigapabaaW.PrintMore Go.Proofs.YtlfifpkigapabaaW.PrintBits
attribute [local go_sem] max2_int min2_int max_two min_two max_three min_three max_four min_four   -- for this text's walks alone
set_option linter.unusedVariables false
set_option linter.unusedSimpArgs false

/-! ### spec_l03Start: function 53 -/
def spec_l03Start.f (l0 : List (S38)) (a1 : Int) : Option ((List (S38))) := (some (([] : List (S38)) : List (S38))).bind fun y101 => (if 0 ≤ a1 then (if a1 ≤ (l0.length : Int) then ((some (l0.drop (a1 : Int).toNat : List (S38))).bind fun y104 => (if y101.length + y104.length < 8796093022208 then ((some (y101 ++ y104 : List (S38))).bind fun y108 => ((some (l0.take (a1 : Int).toNat : List (S38))).bind fun y111 => (if y108.length + y111.length < 8796093022208 then (some (y108 ++ y111)) else (none)))) else (none))) else (none)) else (none))
def spec_l03Start.T1 : Bool × List (List Nat × List Nat) := (true, [([], []), ([], []), ([], []), ([1, 2], [1, 2]), ([0, 3], [0, 3]), ([], []), ([], []), ([5, 6], [5, 6]), ([4, 7, 4], [4, 7]), ([8, 8, 0, 1, 2, 3, 4, 5, 6, 7, 8], [8])])
def spec_l03Start.B1 : List Nat := [0, 0, 0, 6, 15, 0, 0, 96, 255, 511]
theorem spec_l03Start.tab1 : rtab .any (opsOf Try.f53 1) = spec_l03Start.T1 := by kernel_rfl
theorem spec_l03Start.bits1 : waitsOk spec_l03Start.T1.2 spec_l03Start.B1 = true := by kernel_rfl
set_option maxHeartbeats 8000000 in
set_option maxRecDepth 100000 in
theorem spec_l03Start.calls (A0 : Option Addr) (c0 : Nat) (l0 : List (S38)) (a1 : Int) (r : List (S38)) (w : World) (hr0 : Kd.C k38 w A0 l0.length l0) (hc0 : l0.length ≤ c0) (h : spec_l03Start.f l0 a1 = some r) :
  Calls Try.prog 53 #[.slice A0 l0.length c0, .int .i64 a1] w fun e w' => ∃ v0_ : Value, e = .returned (v0_) ∧ Kd.R k38 38 w' w.heap.size (fun _ => True) v0_ r ∧ Below w.heap.size w w' := by
 have HR0 := Ak hr0; have HC0 := Ak hc0; clear hr0 hc0; have HB := Ak (Below.refl w.heap.size w); have H : ((some (([] : List (S38)) : List (S38))).bind fun y101 => (if 0 ≤ a1 then (if a1 ≤ (l0.length : Int) then ((some (l0.drop (a1 : Int).toNat : List (S38))).bind fun y104 => (if y101.length + y104.length < 8796093022208 then ((some (y101 ++ y104 : List (S38))).bind fun y108 => ((some (l0.take (a1 : Int).toNat : List (S38))).bind fun y111 => (if y108.length + y111.length < 8796093022208 then (some (y108 ++ y111)) else (none)))) else (none))) else (none)) else (none))) = some r := h; clear h; obtain ⟨y101, hy101⟩ : ∃ y_ : List (S38), y_ = (([] : List (S38))) := ⟨_, rfl⟩; replace H : (if 0 ≤ a1 then (if a1 ≤ (l0.length : Int) then ((some (l0.drop (a1 : Int).toNat : List (S38))).bind fun y104 => (if y101.length + y104.length < 8796093022208 then ((some (y101 ++ y104 : List (S38))).bind fun y108 => ((some (l0.take (a1 : Int).toNat : List (S38))).bind fun y111 => (if y108.length + y111.length < 8796093022208 then (some (y108 ++ y111)) else (none)))) else (none))) else (none)) else (none)) = some r := by first | (rw [hy101]; exact H) | exact H
 have Ny101 := Ak hy101; clear hy101
 by_cases c3 : 0 ≤ a1
 ·rw [if_pos c3] at H; have c3b0 := eq_true c3; have c3b1 : decide (0 ≤ a1) = true := decide_eq_true c3; clear c3
  by_cases c4 : a1 ≤ (l0.length : Int)
  ·rw [if_pos c4] at H; have c4b0 := eq_true c4; have c4b1 : decide (a1 ≤ (l0.length : Int)) = true := decide_eq_true c4; clear c4; obtain ⟨y104, hy104⟩ : ∃ y_ : List (S38), y_ = (l0.drop (a1 : Int).toNat) := ⟨_, rfl⟩; replace H : (if y101.length + y104.length < 8796093022208 then ((some (y101 ++ y104 : List (S38))).bind fun y108 => ((some (l0.take (a1 : Int).toNat : List (S38))).bind fun y111 => (if y108.length + y111.length < 8796093022208 then (some (y108 ++ y111)) else (none)))) else (none)) = some r := by first | (rw [hy104]; exact H) | exact H
   have Ny104 := Ak hy104; clear hy104
   by_cases c5 : y101.length + y104.length < 8796093022208
   ·rw [if_pos c5] at H; have LMc5 := Ak c5; clear c5; obtain ⟨y108, hy108⟩ : ∃ y_ : List (S38), y_ = (y101 ++ y104) := ⟨_, rfl⟩; replace H : ((some (l0.take (a1 : Int).toNat : List (S38))).bind fun y111 => (if y108.length + y111.length < 8796093022208 then (some (y108 ++ y111)) else (none))) = some r := by first | (rw [hy108]; exact H) | exact H
    have Ny108 := Ak hy108; clear hy108; have c6b0 := eq_true (of_decide_eq_true (by first | (with_reducible assumption) | assumption) : 0 ≤ a1); have c7b0 := eq_true (of_decide_eq_true (by first | (with_reducible assumption) | assumption) : a1 ≤ (l0.length : Int)); obtain ⟨y111, hy111⟩ : ∃ y_ : List (S38), y_ = (l0.take (a1 : Int).toNat) := ⟨_, rfl⟩; replace H : (if y108.length + y111.length < 8796093022208 then (some (y108 ++ y111)) else (none)) = some r := by first | (rw [hy111]; exact H) | exact H
    have Ny111 := Ak hy111; clear hy111
    by_cases c8 : y108.length + y111.length < 8796093022208
    ·rw [if_pos c8] at H; have LMc8 := Ak c8; clear c8; obtain ⟨y115, hy115⟩ : ∃ y_ : List (S38), y_ = (y108 ++ y111) := ⟨_, rfl⟩; replace H : (some y115) = some r := by first | (rw [hy115]; exact H) | exact H
     have Ny115 := Ak hy115; clear hy115; obtain rfl := Option.some.inj H
     go_enter Try.func53, Try.ntmps53
     try go_wp2
     have n0_ := Ak (below_drew1 HB.out); clear HB; have HB := n0_; clear n0_; have q10 : (a1 : Int) ≤ ((l0.length : Int) : Int) := of_decide_eq_true (by first | (with_reducible assumption) | assumption); obtain ⟨i010, hi010, _, hsz10, _⟩ := info_parts info38; have hroom10 : l0.length ≤ c0 := HC0.out; have hC10 : Kd.C k38 _ A0 l0.length l0 := HR0.out; have q010 : (0 : Int) ≤ (a1 : Int) := of_decide_eq_true (by first | (with_reducible assumption) | assumption); have hcut10 := cut_from (P := Try.prog) 29 38 .i64 Try.underlying29 hi010 2 hsz10 A0 l0.length c0 a1 q010 q10; have hr10 := Kd.C_drop (m := (a1 : Int).toNat) (c := c0) hC10 (by omega) hroom10; obtain ⟨A10, hA10⟩ : ∃ A1, A1 = (if c0 = (a1 : Int).toNat then A0 else (A0 : Option Addr).map (·.add ((a1 : Int).toNat * 2))) := ⟨_, rfl⟩; obtain ⟨c10, hc10⟩ : ∃ c1, c1 = c0 - (a1 : Int).toNat := ⟨_, rfl⟩; have hy10 : y104.length = l0.length - (a1 : Int).toNat := (by rw [Ny104.out, List.length_drop] <;> omega); rw [show (l0).drop (a1 : Int).toNat = y104 from Ny104.out.symm] at hr10; replace hr10 : Kd.C k38 _ A10 y104.length y104 := (by rw [hA10]; exact hr10); rw [← hy10, ← hA10, ← hc10] at hcut10; have HR107 := Ak hr10; have HC107 := Ak (show y104.length ≤ c10 from by rw [hy10, hc10]; exact Nat.sub_le_sub_right hroom10 _); clear hr10 hC10 hroom10 hi010 hsz10 hc10; have KY10 := Ak hy10; have KA10 := Ak hA10; clear hy10 hA10; replace q10 := eq_true q10; have q11 : (a1 : Int) ≤ ((l0.length : Int) : Int) := of_decide_eq_true (by first | (with_reducible assumption) | assumption); obtain ⟨i011, hi011, _, hsz11, _⟩ := info_parts info38; have hroom11 : l0.length ≤ c0 := HC0.out; have hC11 : Kd.C k38 _ A0 l0.length l0 := HR0.out; have hcut11 := cut_to (P := Try.prog) 29 38 .i64 Try.underlying29 hi011 A0 l0.length c0 a1 (of_decide_eq_true (by first | (with_reducible assumption) | assumption)) q11 hroom11; have hr11 := Kd.C_take (m := (a1 : Int).toNat) hC11 (by omega); have hy11 : y111.length = (a1 : Int).toNat := (by rw [Ny111.out, List.length_take]; omega); rw [← Ny111.out] at hr11; rw [← hy11] at hcut11; have HR114 := Ak hr11; have HC114 := Ak (show y111.length ≤ c0 from by omega); clear hr11 hC11 hroom11 hi011 hsz11; have KY11 := Ak hy11; clear hy11; replace q11 := eq_true q11; refine start_ (n := 10) (S := fun w' => True) (ds := []) #[F,F,F,F,F,F,F,F,F,F] (by kernel_rfl) rfl rfl trivial (fun hHeld => ?_); refine with_tabW spec_l03Start.tab1 spec_l03Start.bits1 (fun HT_ HW_ => ?_); generalize w.drew = w9 at HB HR107 HR114 hHeld ⊢; refine pure_ (i := 1) (N := some 6) (v := ?_) (a' := ?_) #[F,T,F,F,F,F,F,F,F,F] rfl rfl (any_of HT_.out (by kernel_rfl)) (fun _ _ _ h => h) (Or.inl ⟨by rfl, ?_⟩) ?_ ?_; rotate_left
     ·intro w'; go_simp; with_reducible rfl
     rotate_left
     ·simp only [Act.put, sA, sB, sC, sD, sE]; rfl
     refine pure_ (i := 2) (N := some 7) (v := ?_) (a' := ?_) #[F,T,T,F,F,F,F,F,F,F] rfl rfl (any_of HT_.out (by kernel_rfl)) (fun _ _ _ h => h) (Or.inl ⟨by rfl, ?_⟩) ?_ ?_; rotate_left
     ·intro w'; go_simp; with_reducible rfl
     rotate_left
     ·simp only [Act.put, sA, sB, sC, sD, sE]; rfl
     refine pure_ (i := 3) (N := some 8) (v := ?_) (a' := ?_) #[F,T,T,T,F,F,F,F,F,F] rfl rfl (any_of HT_.out (by kernel_rfl)) (fun _ _ _ h => h) (Or.inl ⟨by rfl, ?_⟩) ?_ ?_; rotate_left
     ·intro w'; go_simp; with_reducible rfl
     rotate_left
     ·simp only [Act.put, sA, sB, sC, sD, sE]; rfl
     refine pure_ (i := 5) (N := some 10) (v := ?_) (a' := ?_) #[F,T,T,T,F,T,F,F,F,F] rfl rfl (any_of HT_.out (by kernel_rfl)) (fun _ _ _ h => h) (Or.inl ⟨by rfl, ?_⟩) ?_ ?_; rotate_left
     ·intro w'; go_simp; with_reducible rfl
     rotate_left
     ·simp only [Act.put, sA, sB, sC, sD, sE]; rfl
     refine pure_ (i := 6) (N := some 11) (v := ?_) (a' := ?_) #[F,T,T,T,F,T,T,F,F,F] rfl rfl (any_of HT_.out (by kernel_rfl)) (fun _ _ _ h => h) (Or.inl ⟨by rfl, ?_⟩) ?_ ?_; rotate_left
     ·intro w'; go_simp; with_reducible rfl
     rotate_left
     ·simp only [Act.put, sA, sB, sC, sD, sE]; rfl
     refine pure_ (i := 7) (N := some 12) (v := ?_) (a' := ?_) #[F,T,T,T,F,T,T,T,F,F] rfl rfl (any_of HT_.out (by kernel_rfl)) (fun _ _ _ h => h) (Or.inl ⟨by rfl, ?_⟩) ?_ ?_; rotate_left
     ·intro w'; go_simp; with_reducible rfl
     rotate_left
     ·simp only [Act.put, sA, sB, sC, sD, sE]; rfl
     refine one_ (i := 0) (N := some 5) #[T,T,T,T,F,T,T,T,F,F] rfl rfl (one_of HT_.out (by kernel_rfl)) (by decide) (fun K hK => ?_); refine Kd.R_lit_step k38 _ 38 ?hg (N := 5) ?hd (xs := ([] : List (S38))) (inner := []) (ok := fun _ => True) (okp := fun _ => True) ?hr ?hp (fun _ hk => hk) trivial (Below.refl _ _) (Nat.le_refl _) (by simp) ?_; (case hd | hg => rfl); (case hr => first | (go_simp; done) | (go_simp; rfl)); (case hp => exact (Reps.none _ _)); intro v102 w12 ho13 hb hg_ hnew_; clear hg_ hnew_
     (first | rw [← Ny101.out] at ho13 | (simp only [Int.reduceToNat] at ho13; rw [← Ny101.out] at ho13))
     have n0_ := Ak (Kd.R_lower ho13 (below_size (by repeat (first | exact HB.out | apply bA | apply bD | apply bE)))); have n1_ := Ak (below_step (by repeat (first | exact HB.out | apply bA | apply bD | apply bE)) hb); clear HB; have HO103 := n0_; have HB := n1_; clear n0_ n1_ hb ho13; refine hK.out _ _ trivial (fun hHeld => ?_); clear hK K; refine norm_ (a' := ?_) ?_ ?_; rotate_left
     ·show Act.put _ (some 5) _ = _; simp only [Act.put, sA, sB, sC, sD, sE]; rfl
     refine one_ (i := 4) (N := some 9) #[T,T,T,T,T,T,T,T,F,F] rfl rfl (one_of HT_.out (by kernel_rfl)) (by decide) (fun K hK => ?_); refine Kd.R_append_rows_step k38 (w0 := w) w.heap.size (by rfl) (.tmp 5) (.tmp 8) 29 38 (.agg #[(.int .i64 0), (.int .i64 0)]) 16 rfl Try.underlying29 info38 rfl (by decide) (by omega) v102 y101 y104 _ _ _ (fun _ => True) (fun _ => False) rfl rfl ?aO ?aR (fun _ _ h => h) (fun _ h => h.elim) ?aF ?aB ?aS ?aL ?_
     (case aR => repeat (first | exact (Kd.C_below HR107.out HB.out) | (with_reducible refine Kd.C_alloc ?_ _) | (with_reducible refine Kd.C_drewN ?_ _) | (with_reducible refine Kd.C_drew ?_)))
     (case aB => exact (by repeat (first | exact HB.out | apply bA | apply bD | apply bE)))
     (case aF => exact (fun _ _ => trivial))
     (case aO => exact (by (with_reducible repeat (first | apply Kd.R_alloc | apply Kd.R_drewN | apply Kd.R_drew)); exact HO103.out))
     (case aS => exact (below_size (by repeat (first | exact HB.out | apply bA | apply bD | apply bE))))
     (case aL => have := LMc5.out; omega)
     intro v109 w14 ho hb hg hat; rw [← Ny108.out] at ho; have n0_ := Ak (hb); have n1_ := Ak (ho); clear HB HO103; have HB := n0_; have HO110 := n1_; clear n0_ n1_ ho hb hg hat; refine hK.out _ _ trivial (fun hHeld => ?_); clear hK K; refine norm_ (a' := ?_) ?_ ?_; rotate_left
     ·show Act.put _ (some 9) _ = _; simp only [Act.put, sA, sB, sC, sD, sE]; rfl
     refine one_ (i := 8) (N := some 13) #[T,T,T,T,T,T,T,T,T,F] rfl rfl (one_of HT_.out (by kernel_rfl)) (by decide) (fun K hK => ?_); refine Kd.R_append_rows_step k38 (w0 := w) w.heap.size (by rfl) (.tmp 9) (.tmp 12) 29 38 (.agg #[(.int .i64 0), (.int .i64 0)]) 16 rfl Try.underlying29 info38 rfl (by decide) (by omega) v109 y108 y111 _ _ _ (fun _ => True) (fun _ => False) rfl rfl ?aO ?aR (fun _ _ h => h) (fun _ h => h.elim) ?aF ?aB ?aS ?aL ?_
     (case aR => repeat (first | exact (Kd.C_below HR114.out HB.out) | (with_reducible refine Kd.C_alloc ?_ _) | (with_reducible refine Kd.C_drewN ?_ _) | (with_reducible refine Kd.C_drew ?_)))
     (case aB => exact (by repeat (first | exact HB.out | apply bA | apply bD | apply bE)))
     (case aF => exact (fun _ _ => trivial))
     (case aO => exact (by (with_reducible repeat (first | apply Kd.R_alloc | apply Kd.R_drewN | apply Kd.R_drew)); exact HO110.out))
     (case aS => exact (below_size (by repeat (first | exact HB.out | apply bA | apply bD | apply bE))))
     (case aL => have := LMc8.out; omega)
     intro v116 w15 ho hb hg hat; rw [← Ny115.out] at ho; have n0_ := Ak (hb); have n1_ := Ak (ho); clear HB HO110; have HB := n0_; have HO117 := n1_; clear n0_ n1_ ho hb hg hat; refine hK.out _ _ trivial (fun hHeld => ?_); clear hK K; refine norm_ (a' := ?_) ?_ ?_; rotate_left
     ·show Act.put _ (some 13) _ = _; simp only [Act.put, sA, sB, sC, sD, sE]; rfl
     refine pure_ (i := 9) (N := some 4) (v := ?_) (a' := ?_) #[T,T,T,T,T,T,T,T,T,T] rfl rfl (any_of HT_.out (by kernel_rfl)) (fun _ _ _ h => h) (Or.inl ⟨by rfl, ?_⟩) ?_ ?_; rotate_left
     ·intro w'; go_simp; with_reducible rfl
     rotate_left
     ·simp only [Act.put, sA, sB, sC, sD, sE]; rfl
     refine done_ (done_of HT_.out (by kernel_rfl)) ?_
     try go_wp2
     go_ret
     exact ⟨_, by first | rfl | (simp [*, errW_none, errW_some] <;> rfl), by (with_reducible repeat (first | apply Kd.R_alloc | apply Kd.R_drewN | apply Kd.R_drew)); exact HO117.out, by repeat (first | (with_reducible first | exact HB.out | apply bA | apply bD | apply bE) | exact HB.out)⟩
    ·rw [if_neg c8] at H; exact absurd H (by simp)
   ·rw [if_neg c5] at H; exact absurd H (by simp)
  ·rw [if_neg c4] at H; exact absurd H (by simp)
 ·rw [if_neg c3] at H; exact absurd H (by simp)

end Go.Proofs.Ytlfifpkigapabaa.G
