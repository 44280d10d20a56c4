/- A Go function as a plain Lean function, and the proof that Go's call comes to its answer. No conditions but those in the theorem. Written by gen.py (a program of this session over the kit's print). -/
-- SHRUNK by pack.py
import Derived.Test.YtlfifpkigapabaaG0
import Derived.Test.YtlfifpkigapabaaF56
import Derived.Test.YtlfifpkigapabaaF57
import Derived.Test.YtlfifpkigapabaaF58
import Derived.Test.YtlfifpkigapabaaF59
import Derived.Test.YtlfifpkigapabaaF60
import Derived.Lib.SliceRun
namespace Go.Proofs.Ytlfifpkigapabaa.G
open Go.RowKit Go.Proofs.YtlfifpkigapabaaW.PrintWords Go.Proofs.YtlfifpkigapabaaW.PrintLast Go.Proofs.YtlfifpkigapabaaW.PrintMore Go.Proofs.YtlfifpkigapabaaW.PrintBits
attribute [local go_sem] max2_int min2_int max_two min_two max_three min_three max_four min_four   -- for this text's walks alone
set_option linter.unusedVariables false
set_option linter.unusedSimpArgs false

/-! ### impl_shape: function 42 -/
def impl_shape.l1 : Nat → List S38 → List S38 → Int → Option (List S38)
 | 0, _, _, _ => none
 | k + 1, c, best, i => if i < (c.length : Int) then (if 0 ≤ i then ((impl_Point_59.f k [c.drop i.toNat, c.take i.toNat]).bind fun d => if d.length = 0 then none else if best.length = 0 then impl_shape.l1 k c d (wrap64 (i + 1)) else ((impl_comparePoints.f k d best).bind fun t => if t < 0 then impl_shape.l1 k c d (wrap64 (i + 1)) else impl_shape.l1 k c best (wrap64 (i + 1)))) else none) else some best
def impl_shape.l0 (k : Nat) (cs : List (List S38)) : Nat → List S38 → Int → Option (List S38)
 | 0, _, _ => none
 | n + 1, best, i => if i < (cs.length : Int) then (if 0 ≤ i then ((impl_shape.l1 k (cs.getD i.toNat []) best 0).bind fun b => impl_shape.l0 k cs n b (wrap64 (i + 1))) else none) else some best
def impl_shape.l2 (k : Nat) (s : List S38) : Nat → List S38 → Int → Option (List S38)
 | 0, _, _ => none
 | n + 1, best, m => if m < 8 then ((impl_movedOn.f k s m).bind fun q => ((impl_turned.f q).bind fun tq => ((impl_shape.l0 k [q, tq] 3 best 0).bind fun b => impl_shape.l2 k s n b (wrap64 (m + 1))))) else some best
def impl_shape.f (k : Nat) (l0 : List S38) : Option (List S38) := (impl_straightened.f k l0).bind fun s => impl_shape.l2 k s 9 [] 0
theorem impl_shape.mono_l1 : ∀ k c b i, LeO (impl_shape.l1 k c b i) (impl_shape.l1 (k + 1) c b i)
 | 0 => fun _ _ _ r h => by simp [impl_shape.l1] at h
 | k + 1 => by
  intro c b i
  have ih := impl_shape.mono_l1 k
  unfold impl_shape.l1
  repeat' first
   | (with_reducible exact ih _ _ _)
   | (with_reducible exact impl_Point_59.mono _ _)
   | (with_reducible exact impl_comparePoints.mono _ _ _)
   | (with_reducible exact LeO.refl _)
   | (with_reducible refine LeO.ite ?_ ?_)
   | (with_reducible refine LeO.bind ?_ (fun _ => ?_))
theorem impl_shape.mono_l0 (k : Nat) (cs : List (List S38)) : ∀ n b i, LeO (impl_shape.l0 k cs n b i) (impl_shape.l0 (k + 1) cs n b i)
 | 0 => fun _ _ r h => by simp [impl_shape.l0] at h
 | n + 1 => by
  intro b i
  have ih := impl_shape.mono_l0 k cs n
  unfold impl_shape.l0
  repeat' first
   | (with_reducible exact ih _ _)
   | (with_reducible exact impl_shape.mono_l1 _ _ _ _)
   | (with_reducible exact LeO.refl _)
   | (with_reducible refine LeO.ite ?_ ?_)
   | (with_reducible refine LeO.bind ?_ (fun _ => ?_))
theorem impl_shape.mono_l2 (k : Nat) (s : List S38) : ∀ n b i, LeO (impl_shape.l2 k s n b i) (impl_shape.l2 (k + 1) s n b i)
 | 0 => fun _ _ r h => by simp [impl_shape.l2] at h
 | n + 1 => by
  intro b i
  have ih := impl_shape.mono_l2 k s n
  unfold impl_shape.l2
  repeat' first
   | (with_reducible exact ih _ _)
   | (with_reducible exact impl_shape.mono_l0 _ _ _ _ _)
   | (with_reducible exact impl_movedOn.mono _ _ _)
   | (with_reducible exact LeO.refl _)
   | (with_reducible refine LeO.ite ?_ ?_)
   | (with_reducible refine LeO.bind ?_ (fun _ => ?_))
theorem impl_shape.mono : ∀ a0 k, LeO (impl_shape.f k a0) (impl_shape.f (k + 1) a0) := by
 intro a0 k
 unfold impl_shape.f
 repeat' first
  | (with_reducible exact impl_shape.mono_l2 _ _ _ _ _)
  | (with_reducible exact impl_straightened.mono _ _)
  | (with_reducible exact LeO.refl _)
  | (with_reducible refine LeO.bind ?_ (fun _ => ?_))
theorem impl_shape.at_ {w : World} {A : Option Addr} {n : Nat} {xs : List (List S38)} (h : Kd.C (Kd.slice 38 k38) w A n xs) (i : Int) (h0 : 0 ≤ i) (h1 : i < n) : ∃ ad A0 c0, A = some ad ∧ w.cell? (ad.add i.toNat) = some (.slice A0 (xs.getD i.toNat []).length c0) ∧ (xs.getD i.toNat []).length ≤ c0 ∧ k38.C w A0 (xs.getD i.toNat []).length (xs.getD i.toNat []) := by
 obtain ⟨ad, c, e, _, hK, hc0⟩ := Kd.C_get h ([] : List S38) i h0 h1
 have hc : ∀ j u, c[j]? = some u → w.cell? (ad.add (i.toNat * 1 + j)) = some u := hc0
 obtain ⟨A0, c0, rfl, l0, g0⟩ := hK
 exact ⟨ad, A0, c0, e, by have hq := hc 0 _ rfl; rwa [Nat.mul_one, Nat.add_zero] at hq, l0, g0⟩
/-- A row that is read, and that nothing changes. -/
theorem impl_shape.seen {w : World} {A : Option Addr} {c : Nat} {l : List S38} (base : Nat) (h : k38.C w A l.length l) (hc : l.length ≤ c) : Kd.V k38 38 w base (fun _ => True) (.slice A l.length c) l :=
 Kd.V_mk hc (fun W' hW => Kd.Heap.C (Kd.heap_iso _ (Kd.heap_pair (Kd.heap_int _) (Kd.heap_int _))) (fun k hk => hW k trivial hk) h)
def impl_shape.T12 : Bool × List (List Nat × List Nat) := (true, [([], []), ([], []), ([0, 1], [0, 1]), ([], []), ([], []), ([3, 4], [3, 4]), ([2, 5], [2, 5]), ([6], [6]), ([7, 7, 0, 1, 2, 3, 4, 5, 6, 7], [7])])
def impl_shape.B12 : List Nat := [0, 0, 3, 0, 0, 24, 63, 127, 255]
theorem impl_shape.tab12 : rtab .any (opsOf Try.f42 12) = impl_shape.T12 := by kernel_rfl
theorem impl_shape.bits12 : waitsOk impl_shape.T12.2 impl_shape.B12 = true := by kernel_rfl
set_option maxHeartbeats 8000000 in
set_option maxRecDepth 100000 in
theorem impl_shape.calls (k : Nat) (A0 : Option Addr) (c0 : Nat) (l0 : List (S38)) (r : List (S38)) (w : World) (hr0 : Kd.C k38 w A0 l0.length l0) (hc0 : l0.length ≤ c0) (h : impl_shape.f k l0 = some r) :
  Calls Try.prog 42 #[.slice A0 l0.length c0] w fun e w' => ∃ v0_ : Value, e = .returned (v0_) ∧ Kd.R k38 38 w' w.heap.size (fun _ => True) v0_ r ∧ Below w.heap.size w w' := by
 have huP := Try.underlying38; have HR0 := Ak hr0; have HC0 := Ak hc0; clear hr0 hc0; have HB := Ak (Below.refl w.heap.size w); have qnil : ∀ (w : World) (a : Option Addr) (n c n' c' : Nat), (binOp .eql 29 (.slice a n c) (.slice none n' c')).run Try.prog w = .ok (.bool a.isNone) w := fun w a n c n' c' => Lib.run_eql_slice_nil w _ _ a n c n' c' Try.underlying29
 have H := h; clear h; unfold impl_shape.f at H; obtain ⟨s, A3_, H⟩ := Option.bind_eq_some_iff.mp H; replace H : impl_shape.l2 k s 9 [] 0 = some r := H; have A3 := Ak A3_; clear A3_; have H' := Ak H; clear H
 go_enter Try.func42, Try.ntmps42
 go_wp2_with (first | ((with_reducible refine gate_callee (f := 56) rfl ?_); refine goesL_ (some 12) rfl rfl Try.func56 (by kernel_rfl) rfl #[.slice A0 l0.length c0] rfl (by (try simp only [List.map_toArray, List.map_cons, List.map_nil]); first | done | rfl | (simp only [List.length_drop, List.length_take]; rfl)) ?_; (with_reducible refine (impl_straightened.calls k _ _ l0 s _ ?side1 ?side2 A3.out).mono ?_); (case side1 => repeat (first | exact (Kd.C_below HR0.out HB.out) | (with_reducible refine Kd.C_alloc ?_ _) | (with_reducible refine Kd.C_drewN ?_ _) | (with_reducible refine Kd.C_drew ?_))); (case side2 => exact HC0.out); rintro e w3_ ⟨v_, rfl, ho0, hb⟩; obtain ⟨As, cs, rfl⟩ := Kd.R_slice ho0; refine ⟨_, rfl, ?_⟩; have nB_ := Ak (below_step (by repeat (first | exact HB.out | apply bA | apply bD | apply bE)) hb); clear HB; have HB := nB_; clear nB_; have HVs := Ak (Kd.R_V (base' := w.heap.size) ho0); clear ho0; (try clear hb); (try clear hk); (try clear hi)))
 go_loopg [4, 13] 9 (fun kq v4 v13 w' => ∃ (best : List S38) (m : Int), v13 = .int .i64 m ∧ Aside0 (impl_shape.l2 k s kq best m = some r) ∧ Aside0 (kq ≤ 9) ∧ Aside0 (Kd.V k38 38 w' w.heap.size (fun _ => True) (.slice As s.length cs) s) ∧ Aside0 (Kd.R k38 38 w' w.heap.size (fun _ => True) v4 best) ∧ Aside0 (best.length = 0 → v4 = .slice none 0 0) ∧ Aside0 (Below w.heap.size w w'))
 case atStart => exact ⟨[], 0, (by first | rfl | (simp; done) | (simp [*]; done)), H', ⟨Nat.le_refl _⟩, ⟨(by (with_reducible repeat (first | apply Kd.V_alloc | apply Kd.V_drewN | apply Kd.V_drew)); exact HVs.out)⟩, ⟨Kd.R_nil _ _ _ _ _⟩, ⟨fun _ => rfl⟩, ⟨(by repeat (first | exact HB.out | apply bA | apply bD | apply bE))⟩⟩
 case round =>
  clear H'; obtain ⟨best, m, rfl, HA, HK0, HVs, HRb, HNil, HB⟩ := hrel
  cases gk with
  | zero => exact absurd HA.out (by simp [impl_shape.l2])
  | succ k0 =>
   have H := HA.out; clear HA; simp only [impl_shape.l2] at H
   by_cases c1 : m < 8
   ·rw [if_pos c1] at H; have c1b0 : decide (m < 8) = true := decide_eq_true c1; obtain ⟨q, A4_, H⟩ := Option.bind_eq_some_iff.mp H; obtain ⟨tq, A5_, H⟩ := Option.bind_eq_some_iff.mp H; obtain ⟨bend, A6_, H⟩ := Option.bind_eq_some_iff.mp H; replace H : impl_shape.l2 k s k0 bend (wrap64 (m + 1)) = some r := H; obtain ⟨qs, hqs⟩ : ∃ y_ : List (List S38), y_ = [q, tq] := ⟨_, rfl⟩; rw [← hqs] at A6_; have Nqs := Ak hqs; have A4 := Ak A4_; have A5 := Ak A5_; have A6 := Ak A6_; have H0 := Ak H; clear hqs A4_ A5_ A6_ H c1
    go_wp2_with (first | ((with_reducible refine gate_callee (f := 57) rfl ?_); refine goesL_ (some 18) rfl rfl Try.func57 (by kernel_rfl) rfl #[.slice As s.length cs, .int .i64 m] rfl (by (try simp only [List.map_toArray, List.map_cons, List.map_nil]); first | done | rfl | (simp only [List.length_drop, List.length_take]; rfl)) ?_; (with_reducible refine (impl_movedOn.calls k _ _ s m q _ ?side1 ?side2 A4.out).mono ?_); (case side1 => repeat (first | exact (Kd.V_reads' HVs.out).2.2 | (with_reducible refine Kd.C_alloc ?_ _) | (with_reducible refine Kd.C_drewN ?_ _) | (with_reducible refine Kd.C_drew ?_))); (case side2 => exact (Kd.V_reads' HVs.out).2.1); rintro e w4_ ⟨v_, rfl, ho0, hb⟩; obtain ⟨Aq, cq, rfl⟩ := Kd.R_slice ho0; refine ⟨_, rfl, ?_⟩; have n0_ := Ak (Kd.V_below (by (with_reducible repeat (first | apply Kd.V_alloc | apply Kd.V_drewN | apply Kd.V_drew)); exact HVs.out) hb); have n1_ := Ak (Kd.R_below (by (with_reducible repeat (first | apply Kd.R_alloc | apply Kd.R_drewN | apply Kd.R_drew)); exact HRb.out) hb); have nB_ := Ak (below_step (by repeat (first | exact HB.out | apply bA | apply bD | apply bE)) hb); clear HVs; have HVs := n0_; clear n0_; clear HRb; have HRb := n1_; clear n1_; clear HB; have HB := nB_; clear nB_; have HVq := Ak (Kd.R_V (base' := w.heap.size) ho0); clear ho0; (try clear hb); (try clear hk); (try clear hi)) | ((with_reducible refine gate_callee (f := 58) rfl ?_); refine goesL_ (some 21) rfl rfl Try.func58 (by kernel_rfl) rfl #[.slice Aq q.length cq] rfl (by (try simp only [List.map_toArray, List.map_cons, List.map_nil]); first | done | rfl | (simp only [List.length_drop, List.length_take]; rfl)) ?_; (with_reducible refine (impl_turned.calls _ _ q tq _ ?side1 ?side2 A5.out).mono ?_); (case side1 => repeat (first | exact (Kd.V_reads' HVq.out).2.2 | (with_reducible refine Kd.C_alloc ?_ _) | (with_reducible refine Kd.C_drewN ?_ _) | (with_reducible refine Kd.C_drew ?_))); (case side2 => exact (Kd.V_reads' HVq.out).2.1); rintro e w5_ ⟨v_, rfl, ho0, hb⟩; obtain ⟨Atq, ctq, rfl⟩ := Kd.R_slice ho0; refine ⟨_, rfl, ?_⟩; have n0_ := Ak (Kd.V_below (by (with_reducible repeat (first | apply Kd.V_alloc | apply Kd.V_drewN | apply Kd.V_drew)); exact HVs.out) hb); have n1_ := Ak (Kd.V_below (by (with_reducible repeat (first | apply Kd.V_alloc | apply Kd.V_drewN | apply Kd.V_drew)); exact HVq.out) hb); have n2_ := Ak (Kd.R_below (by (with_reducible repeat (first | apply Kd.R_alloc | apply Kd.R_drewN | apply Kd.R_drew)); exact HRb.out) hb); have nB_ := Ak (below_step (by repeat (first | exact HB.out | apply bA | apply bD | apply bE)) hb); clear HVs; have HVs := n0_; clear n0_; clear HVq; have HVq := n1_; clear n1_; clear HRb; have HRb := n2_; clear n2_; clear HB; have HB := nB_; clear nB_; have HVtq := Ak (Kd.R_V (base' := w.heap.size) ho0); clear ho0; (try clear hb); (try clear hk); (try clear hi)) | ((with_reducible refine gate_dst (N := 22) rfl ?_); refine Kd.N_lit (Kd.slice 38 k38) _ 29 ?hg (N' := 22) ?hd (xs := [q, tq]) (inner := [.slice Aq q.length cq, .slice Atq tq.length ctq]) (ok := fun _ => True) (okp := fun _ => True) ?hr ?hp (fun _ hk => hk) trivial (Below.refl _ _) (Nat.le_refl _) (by simp) ?_; (case hd | hg => rfl); (case hr => first | (go_simp; done) | (go_simp; rfl)); (case hp => exact Reps.one (Kd.FK_slice_mk (Kd.V_reads' HVq.out).2.1 (Kd.V_F HVq.out)) (Reps.one (Kd.FK_slice_mk (Kd.V_reads' HVtq.out).2.1 (Kd.V_F HVtq.out)) (Reps.none _ _))); intro vN_ w6_ hoN hb hg_ hnew_; clear hg_ hnew_; (first | rw [← Nqs.out] at hoN | (simp only [Int.reduceToNat] at hoN; rw [← Nqs.out] at hoN)); obtain ⟨Ao, co, rfl⟩ := Kd.N_slice hoN; have n0_ := Ak (Kd.V_below (by (with_reducible repeat (first | apply Kd.V_alloc | apply Kd.V_drewN | apply Kd.V_drew)); exact HVs.out) hb); have n1_ := Ak (Kd.R_below (by (with_reducible repeat (first | apply Kd.R_alloc | apply Kd.R_drewN | apply Kd.R_drew)); exact HRb.out) hb); have nB_ := Ak (below_step (by repeat (first | exact HB.out | apply bA | apply bD | apply bE)) hb); clear HVs; have HVs := n0_; clear n0_; clear HRb; have HRb := n1_; clear n1_; clear HB; have HB := nB_; clear nB_; have HN := Ak (Kd.N_lower hoN (Nat.zero_le _)); clear hoN HVq HVtq; (try clear hb); (try clear hk); (try clear hi)))
    go_loopg [4, 24] 3 (fun kq v4 v24 w' => ∃ (best : List S38) (x : Int), v24 = .int .i64 x ∧ Aside0 (impl_shape.l0 k qs kq best x = some bend) ∧ Aside0 (kq ≤ 3) ∧ Aside0 (Kd.V k38 38 w' w.heap.size (fun _ => True) (.slice As s.length cs) s) ∧ Aside0 (Kd.N (Kd.slice 38 k38) 29 w' 0 (fun _ => True) (.slice Ao qs.length co) qs) ∧ Aside0 (Kd.R k38 38 w' w.heap.size (fun _ => True) v4 best) ∧ Aside0 (best.length = 0 → v4 = .slice none 0 0) ∧ Aside0 (Below w.heap.size w w'))
    case atStart => exact ⟨best, 0, (by first | rfl | (simp; done) | (simp [*]; done)), A6, ⟨Nat.le_refl _⟩, ⟨(by (with_reducible repeat (first | apply Kd.V_alloc | apply Kd.V_drewN | apply Kd.V_drew)); exact HVs.out)⟩, ⟨(by (with_reducible repeat (first | apply Kd.N_alloc | apply Kd.N_drewN | apply Kd.N_drew)); exact HN.out)⟩, ⟨(by (with_reducible repeat (first | apply Kd.R_alloc | apply Kd.R_drewN | apply Kd.R_drew)); exact HRb.out)⟩, HNil, ⟨(by repeat (first | exact HB.out | apply bA | apply bD | apply bE))⟩⟩
    case round =>
     clear A6 HRb HNil; obtain ⟨best, x, rfl, HA, HK1, HVs, HN, HRb, HNil, HB⟩ := hrel
     cases gk with
     | zero => exact absurd HA.out (by simp [impl_shape.l0])
     | succ k1 =>
      have H := HA.out; clear HA; simp only [impl_shape.l0] at H
      by_cases c2 : x < (qs.length : Int)
      ·rw [if_pos c2] at H; have c2b0 : decide (x < (qs.length : Int)) = true := decide_eq_true c2
       by_cases c3 : 0 ≤ x
       ·rw [if_pos c3] at H; have c3b0 : decide (0 ≤ x) = true := decide_eq_true c3; obtain ⟨bnext, A7_, H⟩ := Option.bind_eq_some_iff.mp H; replace H : impl_shape.l0 k qs k1 bnext (wrap64 (x + 1)) = some bend := H; obtain ⟨ad, Ac, cc, e5, hx5, hl5, hi5⟩ := impl_shape.at_ (Kd.N_reads' HN.out).2.2 x c3 c2; cases e5; obtain ⟨c, hc⟩ : ∃ y_ : List S38, y_ = qs.getD x.toNat [] := ⟨_, rfl⟩; rw [← hc] at hx5 hl5 hi5 A7_; clear hc; have HVc := Ak (impl_shape.seen w.heap.size hi5 hl5); have H1 := Ak H; have A7 := Ak A7_; clear H A7_ hl5 hi5; replace c2 := eq_true c2; replace c3 := eq_true c3
        go_wp2
        go_loopg [4, 30] k (fun kq v4 v30 w' => ∃ (best : List S38) (i : Int), v30 = .int .i64 i ∧ Aside0 (impl_shape.l1 kq c best i = some bnext) ∧ Aside0 (kq ≤ k) ∧ Aside0 (Kd.V k38 38 w' w.heap.size (fun _ => True) (.slice As s.length cs) s) ∧ Aside0 (Kd.V k38 38 w' w.heap.size (fun _ => True) (.slice Ac c.length cc) c) ∧ Aside0 (Kd.N (Kd.slice 38 k38) 29 w' 0 (fun _ => True) (.slice (some ad) qs.length co) qs) ∧ Aside0 (Kd.R k38 38 w' w.heap.size (fun _ => True) v4 best) ∧ Aside0 (best.length = 0 → v4 = .slice none 0 0) ∧ Aside0 (Below w.heap.size w w'))
        case atStart => exact ⟨best, 0, (by first | rfl | (simp; done) | (simp [*]; done)), A7, ⟨Nat.le_refl _⟩, ⟨(by (with_reducible repeat (first | apply Kd.V_alloc | apply Kd.V_drewN | apply Kd.V_drew)); exact HVs.out)⟩, ⟨(by (with_reducible repeat (first | apply Kd.V_alloc | apply Kd.V_drewN | apply Kd.V_drew)); exact HVc.out)⟩, ⟨(by (with_reducible repeat (first | apply Kd.N_alloc | apply Kd.N_drewN | apply Kd.N_drew)); exact HN.out)⟩, ⟨(by (with_reducible repeat (first | apply Kd.R_alloc | apply Kd.R_drewN | apply Kd.R_drew)); exact HRb.out)⟩, HNil, ⟨(by repeat (first | exact HB.out | apply bA | apply bD | apply bE))⟩⟩
        case round =>
         clear A7 hx5 HRb HNil; obtain ⟨best, i, rfl, HA, HK2, HVs, HVc, HN, HRb, HNil, HB⟩ := hrel
         cases gk with
         | zero => exact absurd HA.out (by simp [impl_shape.l1])
         | succ k2 =>
          have H := HA.out; clear HA; simp only [impl_shape.l1] at H
          by_cases c8 : i < (c.length : Int)
          ·rw [if_pos c8] at H; have c8b0 : decide (i < (c.length : Int)) = true := decide_eq_true c8
           by_cases c9 : 0 ≤ i
           ·rw [if_pos c9] at H; have c9b0 : decide (0 ≤ i) = true := decide_eq_true c9; obtain ⟨d, A9_, H⟩ := Option.bind_eq_some_iff.mp H; replace H : (if d.length = 0 then none else if best.length = 0 then impl_shape.l1 k2 c d (wrap64 (i + 1)) else ((impl_comparePoints.f k2 d best).bind fun t => if t < 0 then impl_shape.l1 k2 c d (wrap64 (i + 1)) else impl_shape.l1 k2 c best (wrap64 (i + 1)))) = some bnext := H; have hd0 : ¬ d.length = 0 := fun hh => by rw [if_pos hh] at H; cases H
            rw [if_neg hd0] at H; have HD0 := Ak hd0; have HH := Ak H; have A9 := Ak A9_; clear A9_ H hd0; have q14 : (i : Int) ≤ ((c.length : Int) : Int) := by omega
            go_wp2
            have n0_ := Ak (Kd.V_drew HVs.out); have n1_ := Ak (Kd.V_drew HVc.out); have n2_ := Ak (Kd.N_drew HN.out); have n3_ := Ak (Kd.R_drew HRb.out); have n4_ := Ak (below_drew1 HB.out); clear HVs HVc HN HRb HB; have HVs := n0_; have HVc := n1_; have HN := n2_; have HRb := n3_; have HB := n4_; clear n0_ n1_ n2_ n3_ n4_; obtain ⟨i014, hi014, _, hsz14, _⟩ := info_parts info38; have hroom14 : c.length ≤ cc := (Kd.V_reads' HVc.out).2.1; have hC14 : Kd.F k38 _ _ Ac c.length c := (Kd.V_at (base := w.heap.size) HVc.out).2.2; have hcut14 := cut_from (P := Try.prog) 29 38 .i64 Try.underlying29 hi014 2 hsz14 Ac c.length cc i c9 q14; have hr14 := Kd.F_cut (m := i.toNat) (c := cc) hC14 (by omega) hroom14; obtain ⟨A14, hA14⟩ : ∃ A1, A1 = (if cc = i.toNat then Ac else (Ac : Option Addr).map (·.add (i.toNat * 2))) := ⟨_, rfl⟩; obtain ⟨c14, hc14⟩ : ∃ c1, c1 = cc - i.toNat := ⟨_, rfl⟩; obtain ⟨y1, hy1⟩ : ∃ y_ : List S38, y_ = c.drop i.toNat := ⟨_, rfl⟩; obtain ⟨y2, hy2⟩ : ∃ y_ : List S38, y_ = c.take i.toNat := ⟨_, rfl⟩; have hy14 : y1.length = c.length - i.toNat := (by rw [hy1, List.length_drop] <;> omega); rw [← hy1] at hr14; replace hr14 : Kd.F k38 _ _ A14 y1.length y1 := (by rw [hA14]; exact hr14); rw [← hy14, ← hA14, ← hc14] at hcut14; have HV1 := Ak (show Kd.V k38 38 _ w.heap.size _ (.slice A14 y1.length c14) y1 from Kd.V_mk (by rw [hy14, hc14]; exact Nat.sub_le_sub_right hroom14 _) hr14); have hcut15 := cut_to (P := Try.prog) 29 38 .i64 Try.underlying29 hi014 Ac c.length cc i c9 q14 hroom14; have hr15 := Kd.F_take (m := i.toNat) hC14 (by omega); have hy15 : y2.length = i.toNat := (by rw [hy2, List.length_take]; omega); rw [← hy2] at hr15; rw [← hy15] at hcut15; have HV2 := Ak (show Kd.V k38 38 _ w.heap.size _ (.slice Ac y2.length cc) y2 from Kd.V_mk (by omega) hr15); have A9_ := A9.out; rw [← hy1, ← hy2] at A9_; obtain ⟨ys, hys⟩ : ∃ y_ : List (List S38), y_ = [y1, y2] := ⟨_, rfl⟩; rw [← hys] at A9_; clear A9; have A9 := Ak A9_; have Nys := Ak hys; clear A9_ hys hr14 hr15 hC14 hroom14 hi014 hsz14 hc14 hA14 hy14 hy1 hy2; have KY15 := Ak hy15; clear hy15; replace c8 := eq_true c8; replace c9 := eq_true c9; replace q14 := eq_true q14; refine start_ (n := 9) (S := fun w' => True) (ds := []) #[F,F,F,F,F,F,F,F,F] (by kernel_rfl) rfl rfl trivial (fun hHeld => ?_); refine with_tabW impl_shape.tab12 impl_shape.bits12 (fun HT_ HW_ => ?_); generalize wr.drew = w13 at HVs HVc HN HRb HB HV1 HV2 hHeld ⊢; refine pure_ (i := 0) (N := some 33) (v := ?_) (a' := ?_) #[T,F,F,F,F,F,F,F,F] rfl rfl (any_of HT_.out (by kernel_rfl)) (fun _ _ _ h => h) (Or.inl ⟨by rfl, ?_⟩) ?_ ?_; rotate_left
            ·intro w'; go_simp; with_reducible rfl
            rotate_left
            ·simp only [Act.put, sA, sB, sC, sD, sE]; rfl
            refine pure_ (i := 1) (N := some 34) (v := ?_) (a' := ?_) #[T,T,F,F,F,F,F,F,F] rfl rfl (any_of HT_.out (by kernel_rfl)) (fun _ _ _ h => h) (Or.inl ⟨by rfl, ?_⟩) ?_ ?_; rotate_left
            ·intro w'; go_simp; with_reducible rfl
            rotate_left
            ·simp only [Act.put, sA, sB, sC, sD, sE]; rfl
            refine pure_ (i := 2) (N := some 35) (v := ?_) (a' := ?_) #[T,T,T,F,F,F,F,F,F] rfl rfl (any_of HT_.out (by kernel_rfl)) (fun _ _ _ h => h) (Or.inl ⟨by rfl, ?_⟩) ?_ ?_; rotate_left
            ·intro w'; go_simp; with_reducible rfl
            rotate_left
            ·simp only [Act.put, sA, sB, sC, sD, sE]; rfl
            refine pure_ (i := 3) (N := some 36) (v := ?_) (a' := ?_) #[T,T,T,T,F,F,F,F,F] rfl rfl (any_of HT_.out (by kernel_rfl)) (fun _ _ _ h => h) (Or.inl ⟨by rfl, ?_⟩) ?_ ?_; rotate_left
            ·intro w'; go_simp; with_reducible rfl
            rotate_left
            ·simp only [Act.put, sA, sB, sC, sD, sE]; rfl
            refine pure_ (i := 4) (N := some 37) (v := ?_) (a' := ?_) #[T,T,T,T,T,F,F,F,F] rfl rfl (any_of HT_.out (by kernel_rfl)) (fun _ _ _ h => h) (Or.inl ⟨by rfl, ?_⟩) ?_ ?_; rotate_left
            ·intro w'; go_simp; with_reducible rfl
            rotate_left
            ·simp only [Act.put, sA, sB, sC, sD, sE]; rfl
            refine pure_ (i := 5) (N := some 38) (v := ?_) (a' := ?_) #[T,T,T,T,T,T,F,F,F] rfl rfl (any_of HT_.out (by kernel_rfl)) (fun _ _ _ h => h) (Or.inl ⟨by rfl, ?_⟩) ?_ ?_; rotate_left
            ·intro w'; go_simp; with_reducible rfl
            rotate_left
            ·simp only [Act.put, sA, sB, sC, sD, sE]; rfl
            refine one_ (i := 6) (N := some 39) #[T,T,T,T,T,T,T,F,F] rfl rfl (one_of HT_.out (by kernel_rfl)) (by decide) (fun K hK => ?_); refine Kd.N_lit_step (Kd.slice 38 k38) _ 29 ?hg (N' := 39) ?hd (xs := [y1, y2]) (inner := [.slice A14 y1.length c14, .slice Ac y2.length cc]) (ok := fun _ => True) (okp := fun _ => True) ?hr ?hp (fun _ hk => hk) trivial (Below.refl _ _) (Nat.le_refl _) (by simp) ?_; (case hd | hg => rfl); (case hr => first | (go_simp; done) | (go_simp; rfl)); (case hp => exact Reps.one (Kd.FK_slice_mk (Kd.V_reads' HV1.out).2.1 (Kd.V_F HV1.out)) (Reps.one (Kd.FK_slice_mk (Kd.V_reads' HV2.out).2.1 (Kd.V_F HV2.out)) (Reps.none _ _))); intro v114 w16 ho17 hb hg_ hnew_; clear hg_ hnew_
            (first | rw [← Nys.out] at ho17 | (simp only [Int.reduceToNat] at ho17; rw [← Nys.out] at ho17))
            obtain ⟨Ao18, co18, rfl⟩ := Kd.N_slice ho17; have n0_ := Ak (Kd.V_below (by (with_reducible repeat (first | apply Kd.V_alloc | apply Kd.V_drewN | apply Kd.V_drew)); exact HVs.out) hb); have n1_ := Ak (Kd.V_below (by (with_reducible repeat (first | apply Kd.V_alloc | apply Kd.V_drewN | apply Kd.V_drew)); exact HVc.out) hb); have n2_ := Ak (Kd.N_below (by (with_reducible repeat (first | apply Kd.N_alloc | apply Kd.N_drewN | apply Kd.N_drew)); exact HN.out) hb); have n3_ := Ak (Kd.R_below (by (with_reducible repeat (first | apply Kd.R_alloc | apply Kd.R_drewN | apply Kd.R_drew)); exact HRb.out) hb); have nB_ := Ak (below_step (by repeat (first | exact HB.out | apply bA | apply bD | apply bE)) hb); clear HVs; have HVs := n0_; clear n0_ HVc; have HVc := n1_; clear n1_ HN; have HN := n2_; clear n2_ HRb; have HRb := n3_; clear n3_ HB; have HB := nB_; clear nB_; have HN2 := Ak ho17; clear ho17 HV1 HV2 hb; refine hK.out _ _ trivial (fun hHeld => ?_); clear hK K; refine norm_ (a' := ?_) ?_ ?_; rotate_left
            ·show Act.put _ (some 39) _ = _; simp only [Act.put, sA, sB, sC, sD, sE]; rfl
            refine one_ (i := 7) (N := some 40) #[T,T,T,T,T,T,T,T,F] rfl rfl (one_of HT_.out (by kernel_rfl)) (by decide) (fun K hK => ?_); refine goes_ Try.func59 (by kernel_rfl) rfl #[.slice Ao18 ys.length co18] (by rfl) rfl rfl (by (try simp only [List.map_toArray, List.map_cons, List.map_nil]); first | done | rfl | (simp only [List.length_drop, List.length_take]; rfl)) ?_
            with_reducible refine (impl_Point_59.calls k2 _ _ ys d _ ?side1 ?side2 A9.out).mono ?_
            (case side1 => repeat (first | exact (Kd.N_reads' HN2.out).2.2 | (with_reducible refine Kd.C_alloc ?_ _) | (with_reducible refine Kd.C_drewN ?_ _) | (with_reducible refine Kd.C_drew ?_)))
            (case side2 => exact (Kd.N_reads' HN2.out).2.1)
            rintro e w19 ⟨v117, rfl, ho0, hb⟩; obtain ⟨Ad, cd, rfl⟩ := Kd.R_slice ho0; refine ⟨_, rfl, ?_⟩; have nR_ := Ak (Kd.R_lower ho0 (below_size (by repeat (first | exact HB.out | apply bA | apply bD | apply bE)))); have n0_ := Ak (Kd.V_below (by (with_reducible repeat (first | apply Kd.V_alloc | apply Kd.V_drewN | apply Kd.V_drew)); exact HVs.out) hb); have n1_ := Ak (Kd.V_below (by (with_reducible repeat (first | apply Kd.V_alloc | apply Kd.V_drewN | apply Kd.V_drew)); exact HVc.out) hb); have n2_ := Ak (Kd.N_below (by (with_reducible repeat (first | apply Kd.N_alloc | apply Kd.N_drewN | apply Kd.N_drew)); exact HN.out) hb); have n3_ := Ak (Kd.R_below (by (with_reducible repeat (first | apply Kd.R_alloc | apply Kd.R_drewN | apply Kd.R_drew)); exact HRb.out) hb); have nB_ := Ak (below_step (by repeat (first | exact HB.out | apply bA | apply bD | apply bE)) hb); clear HVs; have HVs := n0_; clear n0_ HVc; have HVc := n1_; clear n1_ HN; have HN := n2_; clear n2_ HRb; have HRb := n3_; clear n3_ HB; have HB := nB_; clear nB_; have HRd := nR_; clear ho0 hb HN2 nR_; refine hK.out _ _ trivial (fun hHeld => ?_); clear hK K; refine norm_ (a' := ?_) ?_ ?_; rotate_left
            ·show Act.put _ (some 40) _ = _; simp only [Act.put, sA, sB, sC, sD, sE]; rfl
            refine pure_ (i := 8) (N := some 10) (v := ?_) (a' := ?_) #[T,T,T,T,T,T,T,T,T] rfl rfl (any_of HT_.out (by kernel_rfl)) (fun _ _ _ h => h) (Or.inl ⟨by rfl, ?_⟩) ?_ ?_; rotate_left
            ·intro w'; go_simp; with_reducible rfl
            rotate_left
            ·simp only [Act.put, sA, sB, sC, sD, sE]; rfl
            refine done_ (done_of HT_.out (by kernel_rfl)) ?_
            by_cases d3 : best.length = 0
            ·have e4 := HNil.out d3; subst e4; have H := HH.out; clear HH; rw [if_pos d3] at H; have HH := Ak H; clear H
             go_wp2
             go_roundg k2
             case measure => have := HK2.out; omega
             case rel => exact ⟨d, (wrap64 (i + 1)), (by first | rfl | (simp; done) | (simp [*]; done)), HH, ⟨by have := HK2.out; omega⟩, ⟨(by (with_reducible repeat (first | apply Kd.V_alloc | apply Kd.V_drewN | apply Kd.V_drew)); exact HVs.out)⟩, ⟨(by (with_reducible repeat (first | apply Kd.V_alloc | apply Kd.V_drewN | apply Kd.V_drew)); exact HVc.out)⟩, ⟨(by (with_reducible repeat (first | apply Kd.N_alloc | apply Kd.N_drewN | apply Kd.N_drew)); exact HN.out)⟩, ⟨(by (with_reducible repeat (first | apply Kd.R_alloc | apply Kd.R_drewN | apply Kd.R_drew)); exact HRd.out)⟩, ⟨fun hh => absurd hh HD0.out⟩, ⟨(by repeat (first | exact HB.out | apply bA | apply bD | apply bE))⟩⟩
            ·have H := HH.out; clear HH; rw [if_neg d3] at H; obtain ⟨t, A8_, H⟩ := Option.bind_eq_some_iff.mp H; have A8 := Ak A8_; clear A8_; obtain ⟨Ab, cb, rfl⟩ := Kd.R_slice HRb.out; obtain ⟨adb, eb, _⟩ := (Kd.R_reads' HRb.out).2.2.2.2 (Nat.pos_of_ne_zero d3); subst eb
             by_cases d4 : t < 0
             ·have d4b : decide (t < 0) = true := decide_eq_true d4; rw [if_pos d4] at H; have HH := Ak H; clear H d3
              go_wp2_with (first | (go_at_call 60; (with_reducible refine (impl_comparePoints.calls k2 _ _ d _ _ best t _ ?side1 ?side2 ?side3 ?side4 A8.out).mono ?_); (case side1 => repeat (first | exact (Kd.R_reads' HRd.out).2.2 | (with_reducible refine Kd.C_alloc ?_ _) | (with_reducible refine Kd.C_drewN ?_ _) | (with_reducible refine Kd.C_drew ?_))); (case side2 => exact (Kd.R_reads' HRd.out).2.1); (case side3 => repeat (first | exact (Kd.R_reads' HRb.out).2.2 | (with_reducible refine Kd.C_alloc ?_ _) | (with_reducible refine Kd.C_drewN ?_ _) | (with_reducible refine Kd.C_drew ?_))); (case side4 => exact (Kd.R_reads' HRb.out).2.1); rintro e w7_ ⟨rfl, hb⟩; have n0_ := Ak (Kd.V_below (by (with_reducible repeat (first | apply Kd.V_alloc | apply Kd.V_drewN | apply Kd.V_drew)); exact HVs.out) hb); have n1_ := Ak (Kd.V_below (by (with_reducible repeat (first | apply Kd.V_alloc | apply Kd.V_drewN | apply Kd.V_drew)); exact HVc.out) hb); have n2_ := Ak (Kd.N_below (by (with_reducible repeat (first | apply Kd.N_alloc | apply Kd.N_drewN | apply Kd.N_drew)); exact HN.out) hb); have n3_ := Ak (Kd.R_below (by (with_reducible repeat (first | apply Kd.R_alloc | apply Kd.R_drewN | apply Kd.R_drew)); exact HRb.out) hb); have n4_ := Ak (Kd.R_below (by (with_reducible repeat (first | apply Kd.R_alloc | apply Kd.R_drewN | apply Kd.R_drew)); exact HRd.out) hb); have nB_ := Ak (below_step (by repeat (first | exact HB.out | apply bA | apply bD | apply bE)) hb); clear HVs; have HVs := n0_; clear n0_; clear HVc; have HVc := n1_; clear n1_; clear HN; have HN := n2_; clear n2_; clear HRb; have HRb := n3_; clear n3_; clear HRd; have HRd := n4_; clear n4_; clear HB; have HB := nB_; clear nB_; (try clear hb); (try clear hk); (try clear hi)))
              go_roundg k2
              case measure => have := HK2.out; omega
              case rel => exact ⟨d, (wrap64 (i + 1)), (by first | rfl | (simp; done) | (simp [*]; done)), HH, ⟨by have := HK2.out; omega⟩, ⟨(by (with_reducible repeat (first | apply Kd.V_alloc | apply Kd.V_drewN | apply Kd.V_drew)); exact HVs.out)⟩, ⟨(by (with_reducible repeat (first | apply Kd.V_alloc | apply Kd.V_drewN | apply Kd.V_drew)); exact HVc.out)⟩, ⟨(by (with_reducible repeat (first | apply Kd.N_alloc | apply Kd.N_drewN | apply Kd.N_drew)); exact HN.out)⟩, ⟨(by (with_reducible repeat (first | apply Kd.R_alloc | apply Kd.R_drewN | apply Kd.R_drew)); exact HRd.out)⟩, ⟨fun hh => absurd hh HD0.out⟩, ⟨(by repeat (first | exact HB.out | apply bA | apply bD | apply bE))⟩⟩
             ·have d4b : decide (t < 0) = false := decide_eq_false d4; rw [if_neg d4] at H; have HH := Ak H; clear H d3
              go_wp2_with (first | (go_at_call 60; (with_reducible refine (impl_comparePoints.calls k2 _ _ d _ _ best t _ ?side1 ?side2 ?side3 ?side4 A8.out).mono ?_); (case side1 => repeat (first | exact (Kd.R_reads' HRd.out).2.2 | (with_reducible refine Kd.C_alloc ?_ _) | (with_reducible refine Kd.C_drewN ?_ _) | (with_reducible refine Kd.C_drew ?_))); (case side2 => exact (Kd.R_reads' HRd.out).2.1); (case side3 => repeat (first | exact (Kd.R_reads' HRb.out).2.2 | (with_reducible refine Kd.C_alloc ?_ _) | (with_reducible refine Kd.C_drewN ?_ _) | (with_reducible refine Kd.C_drew ?_))); (case side4 => exact (Kd.R_reads' HRb.out).2.1); rintro e w7_ ⟨rfl, hb⟩; have n0_ := Ak (Kd.V_below (by (with_reducible repeat (first | apply Kd.V_alloc | apply Kd.V_drewN | apply Kd.V_drew)); exact HVs.out) hb); have n1_ := Ak (Kd.V_below (by (with_reducible repeat (first | apply Kd.V_alloc | apply Kd.V_drewN | apply Kd.V_drew)); exact HVc.out) hb); have n2_ := Ak (Kd.N_below (by (with_reducible repeat (first | apply Kd.N_alloc | apply Kd.N_drewN | apply Kd.N_drew)); exact HN.out) hb); have n3_ := Ak (Kd.R_below (by (with_reducible repeat (first | apply Kd.R_alloc | apply Kd.R_drewN | apply Kd.R_drew)); exact HRb.out) hb); have n4_ := Ak (Kd.R_below (by (with_reducible repeat (first | apply Kd.R_alloc | apply Kd.R_drewN | apply Kd.R_drew)); exact HRd.out) hb); have nB_ := Ak (below_step (by repeat (first | exact HB.out | apply bA | apply bD | apply bE)) hb); clear HVs; have HVs := n0_; clear n0_; clear HVc; have HVc := n1_; clear n1_; clear HN; have HN := n2_; clear n2_; clear HRb; have HRb := n3_; clear n3_; clear HRd; have HRd := n4_; clear n4_; clear HB; have HB := nB_; clear nB_; (try clear hb); (try clear hk); (try clear hi)))
              go_roundg k2
              case measure => have := HK2.out; omega
              case rel => exact ⟨best, (wrap64 (i + 1)), (by first | rfl | (simp; done) | (simp [*]; done)), HH, ⟨by have := HK2.out; omega⟩, ⟨(by (with_reducible repeat (first | apply Kd.V_alloc | apply Kd.V_drewN | apply Kd.V_drew)); exact HVs.out)⟩, ⟨(by (with_reducible repeat (first | apply Kd.V_alloc | apply Kd.V_drewN | apply Kd.V_drew)); exact HVc.out)⟩, ⟨(by (with_reducible repeat (first | apply Kd.N_alloc | apply Kd.N_drewN | apply Kd.N_drew)); exact HN.out)⟩, ⟨(by (with_reducible repeat (first | apply Kd.R_alloc | apply Kd.R_drewN | apply Kd.R_drew)); exact HRb.out)⟩, HNil, ⟨(by repeat (first | exact HB.out | apply bA | apply bD | apply bE))⟩⟩
           ·rw [if_neg c9] at H; exact absurd H (by simp)
          ·rw [if_neg c8] at H; have c8b0 : decide (i < (c.length : Int)) = false := decide_eq_false c8; obtain rfl := Option.some.inj H
           go_wp2
           go_roundg k1
           case measure => omega
           case rel => exact ⟨best, (wrap64 (x + 1)), (by first | rfl | (simp; done) | (simp [*]; done)), H1, ⟨by have := HK1.out; omega⟩, ⟨(by (with_reducible repeat (first | apply Kd.V_alloc | apply Kd.V_drewN | apply Kd.V_drew)); exact HVs.out)⟩, ⟨(by (with_reducible repeat (first | apply Kd.N_alloc | apply Kd.N_drewN | apply Kd.N_drew)); exact HN.out)⟩, ⟨(by (with_reducible repeat (first | apply Kd.R_alloc | apply Kd.R_drewN | apply Kd.R_drew)); exact HRb.out)⟩, HNil, ⟨(by repeat (first | exact HB.out | apply bA | apply bD | apply bE))⟩⟩
       ·rw [if_neg c3] at H; exact absurd H (by simp)
      ·rw [if_neg c2] at H; have c2b0 : decide (x < (qs.length : Int)) = false := decide_eq_false c2; obtain rfl := Option.some.inj H
       go_wp2
       go_roundg k0
       case measure => omega
       case rel => exact ⟨best, (wrap64 (m + 1)), (by first | rfl | (simp; done) | (simp [*]; done)), H0, ⟨by have := HK0.out; omega⟩, ⟨(by (with_reducible repeat (first | apply Kd.V_alloc | apply Kd.V_drewN | apply Kd.V_drew)); exact HVs.out)⟩, ⟨(by (with_reducible repeat (first | apply Kd.R_alloc | apply Kd.R_drewN | apply Kd.R_drew)); exact HRb.out)⟩, HNil, ⟨(by repeat (first | exact HB.out | apply bA | apply bD | apply bE))⟩⟩
   ·rw [if_neg c1] at H; have c1b0 : decide (m < 8) = false := decide_eq_false c1; obtain rfl := Option.some.inj H
    go_wp2
    go_ret
    exact ⟨_, by first | rfl | (simp [*] <;> rfl), (by (with_reducible repeat (first | apply Kd.R_alloc | apply Kd.R_drewN | apply Kd.R_drew)); exact HRb.out), (by repeat (first | exact HB.out | apply bA | apply bD | apply bE))⟩

end Go.Proofs.Ytlfifpkigapabaa.G
