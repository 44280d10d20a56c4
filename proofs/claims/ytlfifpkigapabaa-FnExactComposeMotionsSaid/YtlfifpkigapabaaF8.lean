/- A Go function as a plain Lean function, and the proof that Go's call comes to its answer. No conditions but those in the theorem. Written by gen.py (a program of this session over the kit's print). -/
-- SHRUNK by pack.py
import Derived.Test.YtlfifpkigapabaaG0
import Derived.Test.YtlfifpkigapabaaE38
import Derived.Test.YtlfifpkigapabaaFA
import Derived.Test.YtlfifpkigapabaaF24
namespace Go.Proofs.Ytlfifpkigapabaa.G
open Go.RowKit Go.Proofs.YtlfifpkigapabaaW.PrintWords Go.Proofs.YtlfifpkigapabaaW.PrintLast Go.Proofs.YtlfifpkigapabaaW.PrintMore Go.Proofs.YtlfifpkigapabaaW.PrintBits
attribute [local go_sem] max2_int min2_int max_two min_two max_three min_three max_four min_four   -- for this text's walks alone
set_option linter.unusedVariables false
set_option linter.unusedSimpArgs false

attribute [local go_sem high] eqA38
/-! ### spec_ComposeMotions: function 8 -/
mutual
def spec_ComposeMotions.j0 : Nat → Int → Int → Bool → Option (Int)
 | 0, _, _, _ => none
 | k + 1, x0, x1, x15 => if x15 = true then (some (-1)) else ((spec_l06Apply.f k 1 2 x0).bind fun bt104 => ((spec_l06Apply.f k bt104.1 bt104.2 x1).bind fun bt106 => (spec_ComposeMotions.l0 k 0 1 2 bt106.1 bt106.2)))
def spec_ComposeMotions.l0 : Nat → Int → Int → Int → Int → Int → Option (Int)
 | 0, _, _, _, _, _ => none
 | k + 1, x7, x104000, x104001, x109000, x109001 => if x7 < 8 then ((spec_l06Apply.f k x104000 x104001 x7).bind fun bt109 => (if (bt109.1 == x109000 && (bt109.2 == x109001)) = true then (some x7) else (spec_ComposeMotions.l0 k (wrap64 (x7 + 1)) x104000 x104001 x109000 x109001))) else (some (-1))
end
def spec_ComposeMotions.f (k : Nat) (a0 : Int) (a1 : Int) : Option (Int) := (spec_l01In.f a0 0 7).bind fun t101 => (if t101 = true then ((spec_l01In.f a1 0 7).bind fun t102 => (spec_ComposeMotions.j0 k a0 a1 (!t102))) else (spec_ComposeMotions.j0 k a0 a1 true))
theorem spec_ComposeMotions.mono_l : ∀ k, (∀ y0 y1 y2, LeO (spec_ComposeMotions.j0 k y0 y1 y2) (spec_ComposeMotions.j0 (k + 1) y0 y1 y2)) ∧ (∀ y0 y1 y2 y3 y4, LeO (spec_ComposeMotions.l0 k y0 y1 y2 y3 y4) (spec_ComposeMotions.l0 (k + 1) y0 y1 y2 y3 y4))
 | 0 => ⟨fun _ _ _ r h => by simp [spec_ComposeMotions.j0] at h, fun _ _ _ _ _ r h => by simp [spec_ComposeMotions.l0] at h⟩
 | k + 1 => by
  obtain ⟨ih0, ih1⟩ := spec_ComposeMotions.mono_l k
  refine ⟨?_, ?_⟩
  ·intro y0 y1 y2
   unfold spec_ComposeMotions.j0
   repeat' first
   | (with_reducible exact ih0 _ _ _)
   | (with_reducible exact ih1 _ _ _ _ _)
   | (with_reducible exact spec_l06Apply.mono _ _ _ _)
   | (with_reducible exact LeO.refl _)
   | (with_reducible exact LeO.none _)
   | (with_reducible refine LeO.ite ?_ ?_)
   | (with_reducible refine LeO.bind ?_ (fun _ => ?_))
   | exact ih0 _ _ _
   | exact ih1 _ _ _ _ _
   | exact spec_l06Apply.mono _ _ _ _
   | exact LeO.none _
   | refine LeO.ite ?_ ?_
   | refine LeO.bind ?_ (fun _ => ?_)
  ·intro y0 y1 y2 y3 y4
   unfold spec_ComposeMotions.l0
   repeat' first
   | (with_reducible exact ih0 _ _ _)
   | (with_reducible exact ih1 _ _ _ _ _)
   | (with_reducible exact spec_l06Apply.mono _ _ _ _)
   | (with_reducible exact LeO.refl _)
   | (with_reducible exact LeO.none _)
   | (with_reducible refine LeO.ite ?_ ?_)
   | (with_reducible refine LeO.bind ?_ (fun _ => ?_))
   | exact ih0 _ _ _
   | exact ih1 _ _ _ _ _
   | exact spec_l06Apply.mono _ _ _ _
   | exact LeO.none _
   | refine LeO.ite ?_ ?_
   | refine LeO.bind ?_ (fun _ => ?_)
theorem spec_ComposeMotions.mono : ∀ a0 a1 k, LeO (spec_ComposeMotions.f k a0 a1) (spec_ComposeMotions.f (k + 1) a0 a1) := by
 intro a0 a1 k
 obtain ⟨ih0, ih1⟩ := spec_ComposeMotions.mono_l k
 unfold spec_ComposeMotions.f
 repeat' first
   | (with_reducible exact ih0 _ _ _)
   | (with_reducible exact ih1 _ _ _ _ _)
   | (with_reducible exact spec_l06Apply.mono _ _ _ _)
   | (with_reducible exact LeO.refl _)
   | (with_reducible exact LeO.none _)
   | (with_reducible refine LeO.ite ?_ ?_)
   | (with_reducible refine LeO.bind ?_ (fun _ => ?_))
   | exact ih0 _ _ _
   | exact ih1 _ _ _ _ _
   | exact spec_l06Apply.mono _ _ _ _
   | exact LeO.none _
   | refine LeO.ite ?_ ?_
   | refine LeO.bind ?_ (fun _ => ?_)
set_option maxHeartbeats 8000000 in
set_option maxRecDepth 100000 in
theorem spec_ComposeMotions.calls (k : Nat) (a0 : Int) (a1 : Int) (r : Int) (w : World) (h : spec_ComposeMotions.f k a0 a1 = some r) :
  Calls Try.prog 8 #[.int .i64 a0, .int .i64 a1] w fun e w' => e = .returned (.int .i64 r) ∧ Below w.heap.size w w' := by
 have hu38 := Try.underlying38; have HB := Ak (Below.refl w.heap.size w); have H : ((spec_l01In.f a0 0 7).bind fun t101 => (if t101 = true then ((spec_l01In.f a1 0 7).bind fun t102 => (spec_ComposeMotions.j0 k a0 a1 (!t102))) else (spec_ComposeMotions.j0 k a0 a1 true))) = some r := h; clear h; have HC3 := Ak H; clear H
 go_enter Try.func8, Try.ntmps8
 go_upto_region 1 with (fail)
 go_cut [15] (fun v15 wc => ∃ (kq : Nat) (x15_2 : Bool), v15 = .bool x15_2 ∧ Aside0 (spec_ComposeMotions.j0 kq a0 a1 x15_2 = some r) ∧ Aside0 (kq ≤ k) ∧ Aside0 (Below w.heap.size w wc))
 case first =>
  have H := HC3.out; clear HC3; replace H := Option.bind_eq_some_iff.mp H; obtain ⟨t101, A40, H⟩ := H; replace H : (if t101 = true then ((spec_l01In.f a1 0 7).bind fun t102 => (spec_ComposeMotions.j0 k a0 a1 (!t102))) else (spec_ComposeMotions.j0 k a0 a1 true)) = some r := H; have A4 := Ak A40; clear A40
  by_cases c5 : t101 = true
  ·subst c5; have H1 : ((spec_l01In.f a1 0 7).bind fun t102 => (spec_ComposeMotions.j0 k a0 a1 (!t102))) = some r := by rw [if_pos rfl] at H; exact H
   clear H; have H := H1; clear H1; replace H := Option.bind_eq_some_iff.mp H; obtain ⟨t102, A60, H⟩ := H; replace H : (spec_ComposeMotions.j0 k a0 a1 (!t102)) = some r := H; have A6 := Ak A60; clear A60; have H' := Ak H; clear H
   go_wp2_with (first | ((with_reducible refine gate_callee (f := 23) rfl ?_); refine goesL_ (some 9) rfl rfl Try.func23 (by kernel_rfl) rfl #[.int .i64 a0, .int .i64 0, .int .i64 7] rfl (by (try simp only [List.map_toArray, List.map_cons, List.map_nil]); first | done | rfl | (simp only [List.length_drop, List.length_take]; rfl)) ?_; (with_reducible refine (spec_l01In.calls a0 0 7 true _ A4.out).mono ?_); rintro e w' ⟨rfl, ⟨nd, rfl⟩⟩; refine ⟨_, rfl, ?_⟩) | (go_at_call 23; (with_reducible refine (spec_l01In.calls a1 0 7 t102 _ A6.out).mono ?_); rintro e w' ⟨rfl, ⟨nd, rfl⟩⟩))
   go_meet
   case rel => exact ⟨_, (!t102), (by first | rfl | (simp; done) | (simp [*]; done)), H', ⟨by first | omega | exact Nat.le_refl _⟩, ⟨by repeat (first | (with_reducible first | exact HB.out | apply bA | apply bD | apply bE) | exact HB.out)⟩⟩
  ·replace c5 := Bool.eq_false_iff.mpr c5; subst c5; have H1 : (spec_ComposeMotions.j0 k a0 a1 true) = some r := by rw [if_neg (show ¬ (false = true) by decide)] at H; exact H
   clear H; have H := H1; clear H1; have H' := Ak H; clear H
   go_wp2_with (first | ((with_reducible refine gate_callee (f := 23) rfl ?_); refine goesL_ (some 9) rfl rfl Try.func23 (by kernel_rfl) rfl #[.int .i64 a0, .int .i64 0, .int .i64 7] rfl (by (try simp only [List.map_toArray, List.map_cons, List.map_nil]); first | done | rfl | (simp only [List.length_drop, List.length_take]; rfl)) ?_; (with_reducible refine (spec_l01In.calls a0 0 7 false _ A4.out).mono ?_); rintro e w' ⟨rfl, ⟨nd, rfl⟩⟩; refine ⟨_, rfl, ?_⟩))
   go_meet
   case rel => exact ⟨_, (true), (by first | rfl | (simp; done) | (simp [*]; done)), H', ⟨by first | omega | exact Nat.le_refl _⟩, ⟨by repeat (first | (with_reducible first | exact HB.out | apply bA | apply bD | apply bE) | exact HB.out)⟩⟩
 case rest =>
  clear HC3
  try clear c2
  try clear p2
  try clear c5
  obtain ⟨kq, x15_2, rfl, HA, HJ2, HB⟩ := hcut
  cases kq with
  | zero => exact absurd HA.out (by simp [spec_ComposeMotions.j0])
  | succ kj2 =>
   have H := HA.out; clear HA; simp only [spec_ComposeMotions.j0] at H
   by_cases c7 : x15_2 = true
   ·subst c7; have H1 : (some (-1)) = some r := by rw [if_pos rfl] at H; exact H
    clear H; have H := H1; clear H1; obtain rfl := Option.some.inj H
    go_wp2
    go_ret
    exact ⟨by first | rfl | (simp [*, errW_none, errW_some] <;> rfl), by repeat (first | (with_reducible first | exact HB.out | apply bA | apply bD | apply bE) | exact HB.out)⟩
   ·replace c7 := Bool.eq_false_iff.mpr c7; subst c7; have H1 : ((spec_l06Apply.f kj2 1 2 a0).bind fun bt104 => ((spec_l06Apply.f kj2 bt104.1 bt104.2 a1).bind fun bt106 => (spec_ComposeMotions.l0 kj2 0 1 2 bt106.1 bt106.2))) = some r := by rw [if_neg (show ¬ (false = true) by decide)] at H; exact H
    clear H; have H := H1; clear H1; replace H := Option.bind_eq_some_iff.mp H; obtain ⟨⟨t104, t105⟩, A80, H⟩ := H; replace H : ((spec_l06Apply.f kj2 t104 t105 a1).bind fun bt106 => (spec_ComposeMotions.l0 kj2 0 1 2 bt106.1 bt106.2)) = some r := H; have A8 := Ak A80; clear A80; replace H := Option.bind_eq_some_iff.mp H; obtain ⟨⟨t106, t107⟩, A90, H⟩ := H; replace H : (spec_ComposeMotions.l0 kj2 0 1 2 t106 t107) = some r := H; have A9 := Ak A90; clear A90; have H' := Ak H; clear H
    go_wp2_with (first | ((with_reducible refine gate_dst (N := 5) rfl ?_); refine box_event ?hg (N := 5) ?hd (cs := #[.int .i64 0, .int .i64 0]) (t := 38) ?hr ?_; (case hd | hg => rfl); (case hr => first | (go_simp; done) | (go_simp; rfl)); intro gb103 hg w10 hbox hb; have n0_ := Ak (below_step (by repeat (first | exact HB.out | apply bA | apply bD | apply bE)) hb); have n1_ := Ak (hbox); have n2_ := Ak ((by rw [hg]; exact (below_size (by repeat (first | exact HB.out | apply bA | apply bD | apply bE))) : w.heap.size ≤ gb103)); have n3_ := n2_; clear HB; have HB := n0_; have BK103 := n1_; have GW103 := n2_; have GE103 := n3_; clear n0_ n1_ n2_ n3_; clear hb hbox hg; have hcz11_0 := b0 BK103.out; have hcz11_1 := b1 BK103.out; have hfz11_0 := blk_frozen BK103.out 0; have hfz11_1 := blk_frozen BK103.out 1) | ((with_reducible refine gate_callee (f := 24) rfl ?_); refine goesL_ (some 19) rfl rfl Try.func24 (by kernel_rfl) rfl #[.agg #[.int .i64 1, .int .i64 2], .int .i64 a0] rfl (by (try simp only [List.map_toArray, List.map_cons, List.map_nil]); first | done | rfl | (simp only [List.length_drop, List.length_take]; rfl)) ?_; (with_reducible refine (spec_l06Apply.calls kj2 1 2 a0 t104 t105 _ A8.out).mono ?_); rintro e w12 ⟨rfl, hb⟩; refine ⟨_, rfl, ?_⟩; have n0_ := Ak (blk_below (g := gb103) (o := .cells #[.int .i64 1, .int .i64 2] 38 (0, 0)) (by refine blk_put (cs := #[.int .i64 1, .int .i64 0]) ?_ 1 _ rfl; refine blk_put (cs := #[.int .i64 0, .int .i64 0]) ?_ 0 _ rfl; exact BK103.out) hb); have n1_ := Ak (below_step (by repeat (first | exact HB.out | apply bA | apply bD | apply bE | refine below_set ?_ GE103.out)) hb); clear BK103; clear HB; have BK103 := n0_; have HB := n1_; clear n0_ n1_; (try clear hb); (try clear hb2); (try clear hk); (try clear hi)) | ((with_reducible refine gate_callee (f := 24) rfl ?_); refine goesL_ (some 21) rfl rfl Try.func24 (by kernel_rfl) rfl #[.agg #[.int .i64 t104, .int .i64 t105], .int .i64 a1] rfl (by (try simp only [List.map_toArray, List.map_cons, List.map_nil]); first | done | rfl | (simp only [List.length_drop, List.length_take]; rfl)) ?_; (with_reducible refine (spec_l06Apply.calls kj2 t104 t105 a1 t106 t107 _ A9.out).mono ?_); rintro e w13 ⟨rfl, hb⟩; refine ⟨_, rfl, ?_⟩; have n0_ := Ak (blk_below (g := gb103) (o := .cells #[.int .i64 1, .int .i64 2] 38 (0, 0)) (by exact BK103.out) hb); have n1_ := Ak (below_step (by repeat (first | exact HB.out | apply bA | apply bD | apply bE | refine below_set ?_ GE103.out)) hb); clear BK103; clear HB; have BK103 := n0_; have HB := n1_; clear n0_ n1_; (try clear hb); (try clear hb2); (try clear hk); (try clear hi)) | ((with_reducible refine gate_dst (N := 6) rfl ?_); refine box_event ?hg (N := 6) ?hd (cs := #[.int .i64 0, .int .i64 0]) (t := 38) ?hr ?_; (case hd | hg => rfl); (case hr => first | (go_simp; done) | (go_simp; rfl)); intro gb108 hg w14 hbox hb; have m0_ := bK (g := gb103) (o := .cells #[.int .i64 1, .int .i64 2] 38 (0, 0)) (by exact BK103.out) hb; have n0_ := Ak (blk_below m0_ hb); have n1_ := Ak (below_step (by repeat (first | exact HB.out | apply bA | apply bD | apply bE | refine below_set ?_ GE103.out)) hb); have n2_ := Ak (hbox); have n3_ := Ak ((by rw [hg]; exact (below_size (by repeat (first | exact HB.out | apply bA | apply bD | apply bE | refine below_set ?_ GE103.out))) : w.heap.size ≤ gb108)); have n4_ := n3_; have n5_ := Ak ((by rw [hg]; exact Nat.ne_of_lt (blk_lt m0_) : gb103 ≠ gb108)); have n6_ := Ak n5_.out.symm; clear BK103; clear HB; have BK103 := n0_; have HB := n1_; have BK108 := n2_; have GW108 := n3_; have GE108 := n4_; have NB103_108 := n5_; have NB108_103 := n6_; clear n0_ n1_ n2_ n3_ n4_ n5_ n6_; clear hb hbox hg; have hnb15 := NB108_103.out; have hnc15 := NB103_108.out; have hcz16_0 := b0 BK108.out; have hcz16_1 := b1 BK108.out; have hfz16_0 := blk_frozen BK108.out 0; have hfz16_1 := blk_frozen BK108.out 1))
    go_loopg [7] kj2 (fun kq v7 w' => ∃ (x7_2 : Int), v7 = .int .i64 x7_2 ∧ Aside0 (spec_ComposeMotions.l0 kq x7_2 1 2 t106 t107 = some r) ∧ Aside0 (kq ≤ kj2) ∧ Aside0 (w'.heap[gb103]? = some (.cells #[.int .i64 1, .int .i64 2] 38 (0, 0))) ∧ Aside0 (w'.heap[gb108]? = some (.cells #[.int .i64 t106, .int .i64 t107] 38 (0, 0))) ∧ Aside0 (Below w.heap.size w w'))
    case atStart => exact ⟨(0), (by first | rfl | (simp; done) | (simp [*]; done)), H', ⟨Nat.le_refl _⟩, ⟨by refine blk_far ?_ NB103_108.out _; refine blk_far ?_ NB103_108.out _; exact BK103.out⟩, ⟨by refine blk_put (cs := #[.int .i64 t106, .int .i64 0]) ?_ 1 _ rfl; refine blk_put (cs := #[.int .i64 0, .int .i64 0]) ?_ 0 _ rfl; exact BK108.out⟩, ⟨by repeat (first | (with_reducible first | exact HB.out | apply bA | apply bD | apply bE | refine below_set ?_ GE103.out | refine below_set ?_ GE108.out) | exact HB.out)⟩⟩
    case round =>
     clear H'
     try clear c1
     try clear c2
     try clear p2
     try clear c5
     try clear c7
     try clear c8
     try clear c15
     try clear hcz11_0
     try clear hcz11_1
     try clear hcz16_0
     try clear hcz16_1
     try clear hfz11_0
     try clear hfz11_1
     try clear hfz16_0
     try clear hfz16_1
     try clear p2
     obtain ⟨x7_2, rfl, HA, HK2, BK103, BK108, HB⟩ := hrel
     cases gk with
     | zero => exact absurd HA.out (by simp [spec_ComposeMotions.l0])
     | succ k2 =>
      have H := HA.out; clear HA; simp only [spec_ComposeMotions.l0] at H
      by_cases c17 : x7_2 < 8
      ·rw [if_pos c17] at H; have c17b0 : decide (x7_2 < 8) = true := decide_eq_true c17; clear c17; replace H := Option.bind_eq_some_iff.mp H; obtain ⟨⟨t109, t110⟩, A180, H⟩ := H; replace H : (if (t109 == t106 && (t110 == t107)) = true then (some x7_2) else (spec_ComposeMotions.l0 k2 (wrap64 (x7_2 + 1)) 1 2 t106 t107)) = some r := H; have A18 := Ak A180; clear A180
       by_cases c19 : (t109 == t106 && (t110 == t107)) = true
       ·rw [if_pos c19] at H; have c19b0 : (t109 == t106 && (t110 == t107)) = true := c19; (try (have c19b1 : decide (t109 = t106 && (t110 == t107)) = true := by simpa using c19)); (try (have c19b2 : (t109 == t106 && (t110 == t107)) = true := by simpa using c19)); clear c19; obtain rfl := Option.some.inj H
        try go_wp2
        have n0_ := Ak (blk_drew BK103.out); have n1_ := Ak (blk_drew BK108.out); have n2_ := Ak (below_drew1 HB.out); clear BK103 BK108 HB; have BK103 := n0_; have BK108 := n1_; have HB := n2_; clear n0_ n1_ n2_; refine start_ (n := 5) (S := fun w' => w'.cell? ⟨gb103, 0, none⟩ = some (.int .i64 1) ∧ w'.cell? ⟨gb103, 1, none⟩ = some (.int .i64 2) ∧ w'.cell? ⟨gb108, 0, none⟩ = some (.int .i64 t106) ∧ w'.cell? ⟨gb108, 1, none⟩ = some (.int .i64 t107)) (ds := []) #[F,F,F,F,F] (by kernel_rfl) rfl rfl ⟨(blk_cell BK103.out 0).trans rfl, (blk_cell BK103.out 1).trans rfl, (blk_cell BK108.out 0).trans rfl, (blk_cell BK108.out 1).trans rfl⟩ (fun hHeld => ?_); generalize wr.drew = w20 at BK103 BK108 HB hHeld ⊢; refine pure_ (i := 1) (N := some 27) (v := ?_) (a' := ?_) #[F,T,F,F,F] rfl rfl (by kernel_rfl) (fun _ _ _ h => h) (Or.inl ⟨by rfl, ?_⟩) ?_ ?_; rotate_left
        ·intro w'; go_simp; with_reducible rfl
        rotate_left
        ·simp only [Act.put, sA, sB, sC, sD, sE]; rfl
        refine take_ (i := 0) (N := some 26) (v := ?_) (a' := ?_) #[T,T,F,F,F] rfl rfl (by kernel_rfl) (fun _ _ _ h => h) (Or.inl ⟨by rfl, ?_⟩) hHeld ?_ ?_; rotate_left
        ·rintro w' ⟨s0, s1, s2, s3⟩; go_simp; with_reducible rfl
        rotate_left
        ·simp only [Act.put, sA, sB, sC, sD, sE]; rfl
        refine take_ (i := 3) (N := some 29) (v := ?_) (a' := ?_) #[T,T,F,T,F] rfl rfl (by kernel_rfl) (fun _ _ _ h => h) (Or.inl ⟨by rfl, ?_⟩) hHeld ?_ ?_; rotate_left
        ·rintro w' ⟨s0, s1, s2, s3⟩; go_simp; with_reducible rfl
        rotate_left
        ·simp only [Act.put, sA, sB, sC, sD, sE]; rfl
        refine one_ (i := 2) (N := some 28) #[T,T,T,T,F] rfl rfl (by kernel_rfl) (by decide) (fun K hK => ?_); refine goes_ Try.func24 (by kernel_rfl) rfl #[.agg #[.int .i64 1, .int .i64 2], .int .i64 x7_2] (by rfl) rfl rfl (by (try simp only [List.map_toArray, List.map_cons, List.map_nil]); first | done | rfl | (simp only [List.length_drop, List.length_take]; rfl)) ?_
        with_reducible refine (spec_l06Apply.calls k2 1 2 x7_2 t109 t110 _ A18.out).mono ?_
        rintro e w21 ⟨rfl, hb⟩; refine ⟨_, rfl, ?_⟩; have n0_ := Ak (blk_below (g := gb103) (o := .cells #[.int .i64 1, .int .i64 2] 38 (0, 0)) (by exact BK103.out) hb); have n1_ := Ak (blk_below (g := gb108) (o := .cells #[.int .i64 t106, .int .i64 t107] 38 (0, 0)) (by exact BK108.out) hb); have n2_ := Ak (below_step (by repeat (first | exact HB.out | apply bA | apply bD | apply bE | refine below_set ?_ GE103.out | refine below_set ?_ GE108.out)) hb); clear BK103 BK108 HB; have BK103 := n0_; have BK108 := n1_; have HB := n2_; clear n0_ n1_ n2_; (try clear hb); (try clear hb2); (try clear hk); (try clear hi); refine hK.out _ _ ⟨(blk_cell BK103.out 0).trans rfl, (blk_cell BK103.out 1).trans rfl, (blk_cell BK108.out 0).trans rfl, (blk_cell BK108.out 1).trans rfl⟩ (fun hHeld => ?_); clear hK K; refine norm_ (a' := ?_) ?_ ?_; rotate_left
        ·show Act.put _ (some 28) _ = _; simp only [Act.put, sA, sB, sC, sD, sE]; rfl
        refine pure_ (i := 4) (N := some 30) (v := ?_) (a' := ?_) #[T,T,T,T,T] rfl rfl (by kernel_rfl) (fun _ _ _ h => h) (Or.inl ⟨by rfl, ?_⟩) ?_ ?_; rotate_left
        ·intro w'; go_simp; with_reducible rfl
        rotate_left
        ·simp only [Act.put, sA, sB, sC, sD, sE]; rfl
        refine done_ (by kernel_rfl) ?_
        try go_wp2
        go_ret
        exact ⟨by first | rfl | (simp [*, errW_none, errW_some] <;> rfl), by repeat (first | (with_reducible first | exact HB.out | apply bA | apply bD | apply bE | refine below_set ?_ GE103.out | refine below_set ?_ GE108.out) | exact HB.out)⟩
       ·rw [if_neg c19] at H; have c19b0 : (t109 == t106 && (t110 == t107)) = false := by simpa using c19
        (try (have c19b1 : decide (t109 = t106 && (t110 == t107)) = false := by simpa using c19)); (try (have c19b2 : (t109 == t106 && (t110 == t107)) = false := by simpa using c19)); (try (have c19b3 : ¬ (t109 = t106 && (t110 == t107)) := by simpa using c19)); clear c19; have H' := Ak H; clear H
        try go_wp2
        have n0_ := Ak (blk_drew BK103.out); have n1_ := Ak (blk_drew BK108.out); have n2_ := Ak (below_drew1 HB.out); clear BK103 BK108 HB; have BK103 := n0_; have BK108 := n1_; have HB := n2_; clear n0_ n1_ n2_; refine start_ (n := 5) (S := fun w' => w'.cell? ⟨gb103, 0, none⟩ = some (.int .i64 1) ∧ w'.cell? ⟨gb103, 1, none⟩ = some (.int .i64 2) ∧ w'.cell? ⟨gb108, 0, none⟩ = some (.int .i64 t106) ∧ w'.cell? ⟨gb108, 1, none⟩ = some (.int .i64 t107)) (ds := []) #[F,F,F,F,F] (by kernel_rfl) rfl rfl ⟨(blk_cell BK103.out 0).trans rfl, (blk_cell BK103.out 1).trans rfl, (blk_cell BK108.out 0).trans rfl, (blk_cell BK108.out 1).trans rfl⟩ (fun hHeld => ?_); generalize wr.drew = w22 at BK103 BK108 HB hHeld ⊢; refine pure_ (i := 1) (N := some 27) (v := ?_) (a' := ?_) #[F,T,F,F,F] rfl rfl (by kernel_rfl) (fun _ _ _ h => h) (Or.inl ⟨by rfl, ?_⟩) ?_ ?_; rotate_left
        ·intro w'; go_simp; with_reducible rfl
        rotate_left
        ·simp only [Act.put, sA, sB, sC, sD, sE]; rfl
        refine take_ (i := 0) (N := some 26) (v := ?_) (a' := ?_) #[T,T,F,F,F] rfl rfl (by kernel_rfl) (fun _ _ _ h => h) (Or.inl ⟨by rfl, ?_⟩) hHeld ?_ ?_; rotate_left
        ·rintro w' ⟨s0, s1, s2, s3⟩; go_simp; with_reducible rfl
        rotate_left
        ·simp only [Act.put, sA, sB, sC, sD, sE]; rfl
        refine take_ (i := 3) (N := some 29) (v := ?_) (a' := ?_) #[T,T,F,T,F] rfl rfl (by kernel_rfl) (fun _ _ _ h => h) (Or.inl ⟨by rfl, ?_⟩) hHeld ?_ ?_; rotate_left
        ·rintro w' ⟨s0, s1, s2, s3⟩; go_simp; with_reducible rfl
        rotate_left
        ·simp only [Act.put, sA, sB, sC, sD, sE]; rfl
        refine one_ (i := 2) (N := some 28) #[T,T,T,T,F] rfl rfl (by kernel_rfl) (by decide) (fun K hK => ?_); refine goes_ Try.func24 (by kernel_rfl) rfl #[.agg #[.int .i64 1, .int .i64 2], .int .i64 x7_2] (by rfl) rfl rfl (by (try simp only [List.map_toArray, List.map_cons, List.map_nil]); first | done | rfl | (simp only [List.length_drop, List.length_take]; rfl)) ?_
        with_reducible refine (spec_l06Apply.calls k2 1 2 x7_2 t109 t110 _ A18.out).mono ?_
        rintro e w23 ⟨rfl, hb⟩; refine ⟨_, rfl, ?_⟩; have n0_ := Ak (blk_below (g := gb103) (o := .cells #[.int .i64 1, .int .i64 2] 38 (0, 0)) (by exact BK103.out) hb); have n1_ := Ak (blk_below (g := gb108) (o := .cells #[.int .i64 t106, .int .i64 t107] 38 (0, 0)) (by exact BK108.out) hb); have n2_ := Ak (below_step (by repeat (first | exact HB.out | apply bA | apply bD | apply bE | refine below_set ?_ GE103.out | refine below_set ?_ GE108.out)) hb); clear BK103 BK108 HB; have BK103 := n0_; have BK108 := n1_; have HB := n2_; clear n0_ n1_ n2_; (try clear hb); (try clear hb2); (try clear hk); (try clear hi); refine hK.out _ _ ⟨(blk_cell BK103.out 0).trans rfl, (blk_cell BK103.out 1).trans rfl, (blk_cell BK108.out 0).trans rfl, (blk_cell BK108.out 1).trans rfl⟩ (fun hHeld => ?_); clear hK K; refine norm_ (a' := ?_) ?_ ?_; rotate_left
        ·show Act.put _ (some 28) _ = _; simp only [Act.put, sA, sB, sC, sD, sE]; rfl
        refine pure_ (i := 4) (N := some 30) (v := ?_) (a' := ?_) #[T,T,T,T,T] rfl rfl (by kernel_rfl) (fun _ _ _ h => h) (Or.inl ⟨by rfl, ?_⟩) ?_ ?_; rotate_left
        ·intro w'; go_simp; with_reducible rfl
        rotate_left
        ·simp only [Act.put, sA, sB, sC, sD, sE]; rfl
        refine done_ (by kernel_rfl) ?_
        try go_wp2
        go_roundg k2
        case measure => have := HJ2.out; have := HK2.out; omega
        case rel => exact ⟨(wrap64 (x7_2 + 1)), (by first | rfl | (simp; done) | (simp [*]; done)), H', ⟨by have := HJ2.out; have := HK2.out; omega⟩, ⟨by exact BK103.out⟩, ⟨by exact BK108.out⟩, ⟨by repeat (first | (with_reducible first | exact HB.out | apply bA | apply bD | apply bE | refine below_set ?_ GE103.out | refine below_set ?_ GE108.out) | exact HB.out)⟩⟩
      ·rw [if_neg c17] at H; have c17b0 : decide (x7_2 < 8) = false := decide_eq_false c17; clear c17; obtain rfl := Option.some.inj H
       go_wp2
       go_ret
       exact ⟨by first | rfl | (simp [*, errW_none, errW_some] <;> rfl), by repeat (first | (with_reducible first | exact HB.out | apply bA | apply bD | apply bE | refine below_set ?_ GE103.out | refine below_set ?_ GE108.out) | exact HB.out)⟩

end Go.Proofs.Ytlfifpkigapabaa.G
