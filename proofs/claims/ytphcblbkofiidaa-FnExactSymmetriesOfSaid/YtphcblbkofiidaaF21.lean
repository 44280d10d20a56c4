/- A Go function as a plain Lean function, and the proof that Go's call comes to its answer. No conditions but those in the theorem. Written by gen.py (a program of this session over the kit's print). -/
-- SHRUNK by pack.py
import Derived.Test.YtphcblbkofiidaaG0
import Derived.Test.YtphcblbkofiidaaF17
import Derived.Test.YtphcblbkofiidaaF67
import Derived.Test.YtphcblbkofiidaaF68
import Derived.Test.YtphcblbkofiidaaF73
import Derived.Test.YtphcblbkofiidaaF74
namespace Go.Proofs.Ytphcblbkofiidaa.G
open Go.RowKit Go.Proofs.YtphcblbkofiidaaW.PrintWords Go.Proofs.YtphcblbkofiidaaW.PrintLast Go.Proofs.YtphcblbkofiidaaW.PrintMore Go.Proofs.YtphcblbkofiidaaW.PrintBits
attribute [local go_sem] max2_int min2_int max_two min_two max_three min_three max_four min_four   -- for this text's walks alone
set_option linter.unusedVariables false
set_option linter.unusedSimpArgs false

/-! ### impl_SamePolygon: function 21 -/
def impl_SamePolygon.l1 : Nat → List S27 → List S27 → Int → Option Bool
 | 0, _, _, _ => none
 | k + 1, a, c, i => if i < (c.length : Int) then (if 0 ≤ i then ((impl_Point_74.f k [c.drop i.toNat, c.take i.toNat]).bind fun d => ((impl_Point_73.f k a d).bind fun t => if t = true then some true else impl_SamePolygon.l1 k a c (wrap64 (i + 1)))) else none) else some false
def impl_SamePolygon.l0 (k : Nat) (a : List S27) (cs : List (List S27)) : Nat → Int → Option Bool
 | 0, _ => none
 | n + 1, i => if i < (cs.length : Int) then (if 0 ≤ i then ((impl_SamePolygon.l1 k a (cs.getD i.toNat []) 0).bind fun t => if t = true then some true else impl_SamePolygon.l0 k a cs n (wrap64 (i + 1))) else none) else some false
def impl_SamePolygon.f (k : Nat) (l0 l1 : List S27) : Option Bool :=
 (impl_PolygonOk.f l0).bind fun t1 => if t1 = true then ((impl_PolygonOk.f l1).bind fun t2 => if t2 = true then ((impl_straightened.f k l0).bind fun a => ((impl_straightened.f k l1).bind fun b => ((impl_turned.f b).bind fun tb => impl_SamePolygon.l0 k a [b, tb] 3 0))) else some false) else some false
theorem impl_SamePolygon.mono_l1 : ∀ k a c i, LeO (impl_SamePolygon.l1 k a c i) (impl_SamePolygon.l1 (k + 1) a c i)
 | 0 => fun _ _ _ r h => by simp [impl_SamePolygon.l1] at h
 | k + 1 => by
  intro a c i
  have ih := impl_SamePolygon.mono_l1 k
  unfold impl_SamePolygon.l1
  repeat' first
   | (with_reducible exact ih _ _ _)
   | (with_reducible exact impl_Point_74.mono _ _)
   | (with_reducible exact impl_Point_73.mono _ _ _)
   | (with_reducible exact LeO.refl _)
   | (with_reducible refine LeO.ite ?_ ?_)
   | (with_reducible refine LeO.bind ?_ (fun _ => ?_))
theorem impl_SamePolygon.mono_l0 (k : Nat) (a : List S27) (cs : List (List S27)) : ∀ n i, LeO (impl_SamePolygon.l0 k a cs n i) (impl_SamePolygon.l0 (k + 1) a cs n i)
 | 0 => fun _ r h => by simp [impl_SamePolygon.l0] at h
 | n + 1 => by
  intro i
  have ih := impl_SamePolygon.mono_l0 k a cs n
  unfold impl_SamePolygon.l0
  repeat' first
   | (with_reducible exact ih _)
   | (with_reducible exact impl_SamePolygon.mono_l1 _ _ _ _)
   | (with_reducible exact LeO.refl _)
   | (with_reducible refine LeO.ite ?_ ?_)
   | (with_reducible refine LeO.bind ?_ (fun _ => ?_))
theorem impl_SamePolygon.mono : ∀ a0 a1 k, LeO (impl_SamePolygon.f k a0 a1) (impl_SamePolygon.f (k + 1) a0 a1) := by
 intro a0 a1 k
 unfold impl_SamePolygon.f
 repeat' first
  | (with_reducible exact impl_SamePolygon.mono_l0 _ _ _ _ _)
  | (with_reducible exact impl_straightened.mono _ _)
  | (with_reducible exact LeO.refl _)
  | (with_reducible refine LeO.ite ?_ ?_)
  | (with_reducible refine LeO.bind ?_ (fun _ => ?_))
theorem impl_SamePolygon.at_ {w : World} {A : Option Addr} {n : Nat} {xs : List (List S27)} (h : Kd.C (Kd.slice 27 k27) w A n xs) (i : Int) (h0 : 0 ≤ i) (h1 : i < n) : ∃ ad A0 c0, A = some ad ∧ w.cell? (ad.add i.toNat) = some (.slice A0 (xs.getD i.toNat []).length c0) ∧ (xs.getD i.toNat []).length ≤ c0 ∧ k27.C w A0 (xs.getD i.toNat []).length (xs.getD i.toNat []) := by
 obtain ⟨ad, c, e, _, hK, hc0⟩ := Kd.C_get h ([] : List S27) i h0 h1
 have hc : ∀ j u, c[j]? = some u → w.cell? (ad.add (i.toNat * 1 + j)) = some u := hc0
 obtain ⟨A0, c0, rfl, l0, g0⟩ := hK
 exact ⟨ad, A0, c0, e, by have hq := hc 0 _ rfl; rwa [Nat.mul_one, Nat.add_zero] at hq, l0, g0⟩
/-- A row that is read, and that nothing changes. -/
theorem impl_SamePolygon.seen {w : World} {A : Option Addr} {c : Nat} {l : List S27} (base : Nat) (h : k27.C w A l.length l) (hc : l.length ≤ c) : Kd.V k27 27 w base (fun _ => True) (.slice A l.length c) l :=
 Kd.V_mk hc (fun W' hW => Kd.Heap.C (Kd.heap_iso _ (Kd.heap_pair (Kd.heap_int _) (Kd.heap_int _))) (fun k hk => hW k trivial hk) h)
def impl_SamePolygon.T10 : Bool × List (List Nat × List Nat) := (true, [([], []), ([], []), ([], []), ([1, 2], [1, 2]), ([], []), ([], []), ([4, 5], [4, 5]), ([3, 6], [3, 6]), ([7], [7]), ([0, 8, 8], [0, 8])])
def impl_SamePolygon.B10 : List Nat := [0, 0, 0, 6, 0, 0, 48, 126, 254, 511]
theorem impl_SamePolygon.tab10 : rtab .any (opsOf Try.f21 10) = impl_SamePolygon.T10 := by kernel_rfl
theorem impl_SamePolygon.bits10 : waitsOk impl_SamePolygon.T10.2 impl_SamePolygon.B10 = true := by kernel_rfl
set_option maxHeartbeats 8000000 in
set_option maxRecDepth 100000 in
theorem impl_SamePolygon.calls (k : Nat) (A0 : Option Addr) (c0 : Nat) (l0 : List (S27)) (A1 : Option Addr) (c1 : Nat) (l1 : List (S27)) (r : Bool) (w : World) (hr0 : Kd.C k27 w A0 l0.length l0) (hc0 : l0.length ≤ c0) (hr1 : Kd.C k27 w A1 l1.length l1) (hc1 : l1.length ≤ c1) (h : impl_SamePolygon.f k l0 l1 = some r) :
  Calls Try.prog 21 #[.slice A0 l0.length c0, .slice A1 l1.length c1] w fun e w' => e = .returned (.bool r) ∧ Below w.heap.size w w' := by
 have hu44 := Try.underlying27
 have HR0 := Ak hr0
 have HC0 := Ak hc0
 have HR1 := Ak hr1
 have HC1 := Ak hc1
 clear hr0 hc0 hr1 hc1
 have HB := Ak (Below.refl w.heap.size w)
 have H := h
 clear h
 unfold impl_SamePolygon.f at H
 obtain ⟨t1, A1_, H⟩ := Option.bind_eq_some_iff.mp H
 replace H : (if t1 = true then ((impl_PolygonOk.f l1).bind fun t2 => if t2 = true then ((impl_straightened.f k l0).bind fun a => ((impl_straightened.f k l1).bind fun b => ((impl_turned.f b).bind fun tb => impl_SamePolygon.l0 k a [b, tb] 3 0))) else some false) else some false) = some r := H
 have A1' := Ak A1_
 clear A1_
 by_cases d1 : t1 = true
 ·subst d1
  rw [if_pos rfl] at H
  obtain ⟨t2, A2_, H⟩ := Option.bind_eq_some_iff.mp H
  replace H : (if t2 = true then ((impl_straightened.f k l0).bind fun a => ((impl_straightened.f k l1).bind fun b => ((impl_turned.f b).bind fun tb => impl_SamePolygon.l0 k a [b, tb] 3 0))) else some false) = some r := H
  have A2' := Ak A2_
  clear A2_
  by_cases d2 : t2 = true
  ·subst d2
   rw [if_pos rfl] at H
   obtain ⟨a, A3_, H⟩ := Option.bind_eq_some_iff.mp H
   obtain ⟨b, A4_, H⟩ := Option.bind_eq_some_iff.mp H
   obtain ⟨tb, A5_, H⟩ := Option.bind_eq_some_iff.mp H
   replace H : impl_SamePolygon.l0 k a [b, tb] 3 0 = some r := H
   obtain ⟨cs, hcs⟩ : ∃ y_ : List (List S27), y_ = [b, tb] := ⟨_, rfl⟩
   rw [← hcs] at H
   have Ncs := Ak hcs
   have A3 := Ak A3_
   have A4 := Ak A4_
   have A5 := Ak A5_
   clear hcs A3_ A4_ A5_
   have H' := Ak H
   clear H
   go_enter Try.func21, Try.ntmps21
   go_wp2_with (first | ((with_reducible refine gate_callee (f := 17) rfl ?_); refine goesL_ (some 11) rfl rfl Try.func17 (by kernel_rfl) rfl #[.slice A0 l0.length c0] rfl (by (try simp only [List.map_toArray, List.map_cons, List.map_nil]); first | done | rfl | (simp only [List.length_drop, List.length_take]; rfl)) ?_; (with_reducible refine (impl_PolygonOk.calls _ _ l0 true _ ?side1 ?side2 A1'.out).mono ?_); (case side1 => repeat (first | exact (Kd.C_below HR0.out HB.out) | (with_reducible refine Kd.C_alloc ?_ _) | (with_reducible refine Kd.C_drewN ?_ _) | (with_reducible refine Kd.C_drew ?_))); (case side2 => exact HC0.out); rintro e w1_ ⟨rfl, hb⟩; refine ⟨_, rfl, ?_⟩; have nB_ := Ak (below_step (by repeat (first | exact HB.out | apply bA | apply bD | apply bE)) hb); clear HB; have HB := nB_; clear nB_; (try clear hb); (try clear hk); (try clear hi)) | (go_at_call 17; (with_reducible refine (impl_PolygonOk.calls _ _ l1 true _ ?side1 ?side2 A2'.out).mono ?_); (case side1 => repeat (first | exact (Kd.C_below HR1.out HB.out) | (with_reducible refine Kd.C_alloc ?_ _) | (with_reducible refine Kd.C_drewN ?_ _) | (with_reducible refine Kd.C_drew ?_))); (case side2 => exact HC1.out); rintro e w2_ ⟨rfl, hb⟩; have nB_ := Ak (below_step (by repeat (first | exact HB.out | apply bA | apply bD | apply bE)) hb); clear HB; have HB := nB_; clear nB_; (try clear hb); (try clear hk); (try clear hi)) | ((with_reducible refine gate_callee (f := 68) rfl ?_); refine goesL_ (some 19) rfl rfl Try.func68 (by kernel_rfl) rfl #[.slice A0 l0.length c0] rfl (by (try simp only [List.map_toArray, List.map_cons, List.map_nil]); first | done | rfl | (simp only [List.length_drop, List.length_take]; rfl)) ?_; (with_reducible refine (impl_straightened.calls k _ _ l0 a _ ?side1 ?side2 A3.out).mono ?_); (case side1 => repeat (first | exact (Kd.C_below HR0.out HB.out) | (with_reducible refine Kd.C_alloc ?_ _) | (with_reducible refine Kd.C_drewN ?_ _) | (with_reducible refine Kd.C_drew ?_))); (case side2 => exact HC0.out); rintro e w3_ ⟨v_, rfl, ho0, hb⟩; obtain ⟨Aa, ca, rfl⟩ := Kd.R_slice ho0; refine ⟨_, rfl, ?_⟩; have nB_ := Ak (below_step (by repeat (first | exact HB.out | apply bA | apply bD | apply bE)) hb); clear HB; have HB := nB_; clear nB_; have HVa := Ak (Kd.R_V (base' := w.heap.size) ho0); clear ho0; (try clear hb); (try clear hk); (try clear hi)) | ((with_reducible refine gate_callee (f := 68) rfl ?_); refine goesL_ (some 21) rfl rfl Try.func68 (by kernel_rfl) rfl #[.slice A1 l1.length c1] rfl (by (try simp only [List.map_toArray, List.map_cons, List.map_nil]); first | done | rfl | (simp only [List.length_drop, List.length_take]; rfl)) ?_; (with_reducible refine (impl_straightened.calls k _ _ l1 b _ ?side1 ?side2 A4.out).mono ?_); (case side1 => repeat (first | exact (Kd.C_below HR1.out HB.out) | (with_reducible refine Kd.C_alloc ?_ _) | (with_reducible refine Kd.C_drewN ?_ _) | (with_reducible refine Kd.C_drew ?_))); (case side2 => exact HC1.out); rintro e w3_ ⟨v_, rfl, ho0, hb⟩; obtain ⟨Ab, cb, rfl⟩ := Kd.R_slice ho0; refine ⟨_, rfl, ?_⟩; have n0_ := Ak (Kd.V_below (by (with_reducible repeat (first | apply Kd.V_alloc | apply Kd.V_drewN | apply Kd.V_drew)); exact HVa.out) hb); have nB_ := Ak (below_step (by repeat (first | exact HB.out | apply bA | apply bD | apply bE)) hb); clear HVa; have HVa := n0_; clear n0_; clear HB; have HB := nB_; clear nB_; have HVb := Ak (Kd.R_V (base' := w.heap.size) ho0); clear ho0; (try clear hb); (try clear hk); (try clear hi)) | ((with_reducible refine gate_callee (f := 67) rfl ?_); refine goesL_ (some 24) rfl rfl Try.func67 (by kernel_rfl) rfl #[.slice Ab b.length cb] rfl (by (try simp only [List.map_toArray, List.map_cons, List.map_nil]); first | done | rfl | (simp only [List.length_drop, List.length_take]; rfl)) ?_; (with_reducible refine (impl_turned.calls _ _ b tb _ ?side1 ?side2 A5.out).mono ?_); (case side1 => repeat (first | exact (Kd.V_reads' HVb.out).2.2 | (with_reducible refine Kd.C_alloc ?_ _) | (with_reducible refine Kd.C_drewN ?_ _) | (with_reducible refine Kd.C_drew ?_))); (case side2 => exact (Kd.V_reads' HVb.out).2.1); rintro e w4_ ⟨v_, rfl, ho0, hb⟩; obtain ⟨Atb, ctb, rfl⟩ := Kd.R_slice ho0; refine ⟨_, rfl, ?_⟩; have n0_ := Ak (Kd.V_below (by (with_reducible repeat (first | apply Kd.V_alloc | apply Kd.V_drewN | apply Kd.V_drew)); exact HVa.out) hb); have n1_ := Ak (Kd.V_below (by (with_reducible repeat (first | apply Kd.V_alloc | apply Kd.V_drewN | apply Kd.V_drew)); exact HVb.out) hb); have nB_ := Ak (below_step (by repeat (first | exact HB.out | apply bA | apply bD | apply bE)) hb); clear HVa; have HVa := n0_; clear n0_; clear HVb; have HVb := n1_; clear n1_; clear HB; have HB := nB_; clear nB_; have HVtb := Ak (Kd.R_V (base' := w.heap.size) ho0); clear ho0; (try clear hb); (try clear hk); (try clear hi)) | ((with_reducible refine gate_dst (N := 25) rfl ?_); refine Kd.N_lit (Kd.slice 27 k27) _ 23 ?hg (N' := 25) ?hd (xs := [b, tb]) (inner := [.slice Ab b.length cb, .slice Atb tb.length ctb]) (ok := fun _ => True) (okp := fun _ => True) ?hr ?hp (fun _ hk => hk) trivial (Below.refl _ _) (Nat.le_refl _) (by simp) ?_; (case hd | hg => rfl); (case hr => first | (go_simp; done) | (go_simp; rfl)); (case hp => exact Reps.one (Kd.FK_slice_mk (Kd.V_reads' HVb.out).2.1 (Kd.V_F HVb.out)) (Reps.one (Kd.FK_slice_mk (Kd.V_reads' HVtb.out).2.1 (Kd.V_F HVtb.out)) (Reps.none _ _))); intro vN_ w5_ hoN hb hg_ hnew_; clear hg_ hnew_; (first | rw [← Ncs.out] at hoN | (simp only [Int.reduceToNat] at hoN; rw [← Ncs.out] at hoN)); obtain ⟨Ao, co, rfl⟩ := Kd.N_slice hoN; have n0_ := Ak (Kd.V_below (by (with_reducible repeat (first | apply Kd.V_alloc | apply Kd.V_drewN | apply Kd.V_drew)); exact HVa.out) hb); have n1_ := Ak (Kd.V_below (by (with_reducible repeat (first | apply Kd.V_alloc | apply Kd.V_drewN | apply Kd.V_drew)); exact HVb.out) hb); have n2_ := Ak (Kd.V_below (by (with_reducible repeat (first | apply Kd.V_alloc | apply Kd.V_drewN | apply Kd.V_drew)); exact HVtb.out) hb); have nB_ := Ak (below_step (by repeat (first | exact HB.out | apply bA | apply bD | apply bE)) hb); clear HVa; have HVa := n0_; clear n0_; clear HVb; have HVb := n1_; clear n1_; clear HVtb; have HVtb := n2_; clear n2_; clear HB; have HB := nB_; clear nB_; have HN := Ak (Kd.N_lower hoN (Nat.zero_le _)); clear hoN HVb HVtb; (try clear hb); (try clear hk); (try clear hi)))
   go_loopg [27] 3 (fun kq v27 w' => ∃ (x : Int), v27 = .int .i64 x ∧ Aside0 (impl_SamePolygon.l0 k a cs kq x = some r) ∧ Aside0 (kq ≤ 3) ∧ Aside0 (Kd.V k27 27 w' w.heap.size (fun _ => True) (.slice Aa a.length ca) a) ∧ Aside0 (Kd.N (Kd.slice 27 k27) 23 w' 0 (fun _ => True) (.slice Ao cs.length co) cs) ∧ Aside0 (Below w.heap.size w w'))
   case atStart => exact ⟨0, (by first | rfl | (simp; done) | (simp [*]; done)), H', ⟨Nat.le_refl _⟩, ⟨(by (with_reducible repeat (first | apply Kd.V_alloc | apply Kd.V_drewN | apply Kd.V_drew)); exact HVa.out)⟩, ⟨(by (with_reducible repeat (first | apply Kd.N_alloc | apply Kd.N_drewN | apply Kd.N_drew)); exact HN.out)⟩, ⟨(by repeat (first | exact HB.out | apply bA | apply bD | apply bE))⟩⟩
   case round =>
    clear H'
    obtain ⟨x, rfl, HA, HK1, HVa, HN, HB⟩ := hrel
    cases gk with
    | zero => exact absurd HA.out (by simp [impl_SamePolygon.l0])
    | succ k1 =>
     have H := HA.out
     clear HA
     simp only [impl_SamePolygon.l0] at H
     by_cases c2 : x < (cs.length : Int)
     ·rw [if_pos c2] at H
      have c2b0 : decide (x < (cs.length : Int)) = true := decide_eq_true c2
      by_cases c3 : 0 ≤ x
      ·rw [if_pos c3] at H
       have c3b0 : decide (0 ≤ x) = true := decide_eq_true c3
       obtain ⟨t, A6_, H⟩ := Option.bind_eq_some_iff.mp H
       replace H : (if t = true then some true else impl_SamePolygon.l0 k a cs k1 (wrap64 (x + 1))) = some r := H
       obtain ⟨ad, Ac, cc, e5, hx5, hl5, hi5⟩ := impl_SamePolygon.at_ (Kd.N_reads' HN.out).2.2 x c3 c2
       cases e5
       obtain ⟨c, hc⟩ : ∃ y_ : List S27, y_ = cs.getD x.toNat [] := ⟨_, rfl⟩
       rw [← hc] at hx5 hl5 hi5 A6_
       clear hc
       have HVc := Ak (impl_SamePolygon.seen w.heap.size hi5 hl5)
       have H' := Ak H
       have A6 := Ak A6_
       clear H A6_ hl5 hi5
       replace c2 := eq_true c2
       replace c3 := eq_true c3
       go_wp2
       go_loopg [33] k (fun kq v33 w' => ∃ (i : Int), v33 = .int .i64 i ∧ Aside0 (impl_SamePolygon.l1 kq a c i = some t) ∧ Aside0 (kq ≤ k) ∧ Aside0 (Kd.V k27 27 w' w.heap.size (fun _ => True) (.slice Aa a.length ca) a) ∧ Aside0 (Kd.V k27 27 w' w.heap.size (fun _ => True) (.slice Ac c.length cc) c) ∧ Aside0 (Kd.N (Kd.slice 27 k27) 23 w' 0 (fun _ => True) (.slice (some ad) cs.length co) cs) ∧ Aside0 (Below w.heap.size w w'))
       case atStart => exact ⟨0, (by first | rfl | (simp; done) | (simp [*]; done)), A6, ⟨Nat.le_refl _⟩, ⟨(by (with_reducible repeat (first | apply Kd.V_alloc | apply Kd.V_drewN | apply Kd.V_drew)); exact HVa.out)⟩, ⟨(by (with_reducible repeat (first | apply Kd.V_alloc | apply Kd.V_drewN | apply Kd.V_drew)); exact HVc.out)⟩, ⟨(by (with_reducible repeat (first | apply Kd.N_alloc | apply Kd.N_drewN | apply Kd.N_drew)); exact HN.out)⟩, ⟨(by repeat (first | exact HB.out | apply bA | apply bD | apply bE))⟩⟩
       case round =>
        clear A6 hx5
        obtain ⟨i, rfl, HA, HK2, HVa, HVc, HN, HB⟩ := hrel
        cases gk with
        | zero => exact absurd HA.out (by simp [impl_SamePolygon.l1])
        | succ k2 =>
         have H := HA.out
         clear HA
         simp only [impl_SamePolygon.l1] at H
         by_cases c8 : i < (c.length : Int)
         ·rw [if_pos c8] at H
          have c8b0 : decide (i < (c.length : Int)) = true := decide_eq_true c8
          by_cases c9 : 0 ≤ i
          ·rw [if_pos c9] at H
           have c9b0 : decide (0 ≤ i) = true := decide_eq_true c9
           obtain ⟨d, A7_, H⟩ := Option.bind_eq_some_iff.mp H
           obtain ⟨t2, A8_, H⟩ := Option.bind_eq_some_iff.mp H
           replace H : (if t2 = true then some true else impl_SamePolygon.l1 k2 a c (wrap64 (i + 1))) = some t := H
           have HH := Ak H
           have A7 := Ak A7_
           have A8 := Ak A8_
           clear A7_ A8_ H
           have q14 : (i : Int) ≤ ((c.length : Int) : Int) := by omega
           go_wp2
           have n0_ := Ak (Kd.V_drew HVa.out)
           have n1_ := Ak (Kd.V_drew HVc.out)
           have n2_ := Ak (Kd.N_drew HN.out)
           have n3_ := Ak (below_drew1 HB.out)
           clear HVa HVc HN HB
           have HVa := n0_
           have HVc := n1_
           have HN := n2_
           have HB := n3_
           clear n0_ n1_ n2_ n3_
           obtain ⟨i014, hi014, _, hsz14, _⟩ := info_parts info27
           have hroom14 : c.length ≤ cc := (Kd.V_reads' HVc.out).2.1
           have hC14 : Kd.F k27 _ _ Ac c.length c := (Kd.V_at (base := w.heap.size) HVc.out).2.2
           have hcut14 := cut_from (P := Try.prog) 23 27 .i64 Try.underlying23 hi014 2 hsz14 Ac c.length cc i c9 q14
           have hr14 := Kd.F_cut (m := i.toNat) (c := cc) hC14 (by omega) hroom14
           obtain ⟨A14, hA14⟩ : ∃ A1, A1 = (if cc = i.toNat then Ac else (Ac : Option Addr).map (·.add (i.toNat * 2))) := ⟨_, rfl⟩
           obtain ⟨c14, hc14⟩ : ∃ c1, c1 = cc - i.toNat := ⟨_, rfl⟩
           obtain ⟨y1, hy1⟩ : ∃ y_ : List S27, y_ = c.drop i.toNat := ⟨_, rfl⟩
           obtain ⟨y2, hy2⟩ : ∃ y_ : List S27, y_ = c.take i.toNat := ⟨_, rfl⟩
           have hy14 : y1.length = c.length - i.toNat := (by rw [hy1, List.length_drop] <;> omega)
           rw [← hy1] at hr14
           replace hr14 : Kd.F k27 _ _ A14 y1.length y1 := (by rw [hA14]; exact hr14)
           rw [← hy14, ← hA14, ← hc14] at hcut14
           have HV1 := Ak (show Kd.V k27 27 _ w.heap.size _ (.slice A14 y1.length c14) y1 from Kd.V_mk (by rw [hy14, hc14]; exact Nat.sub_le_sub_right hroom14 _) hr14)
           have hcut15 := cut_to (P := Try.prog) 23 27 .i64 Try.underlying23 hi014 Ac c.length cc i c9 q14 hroom14
           have hr15 := Kd.F_take (m := i.toNat) hC14 (by omega)
           have hy15 : y2.length = i.toNat := (by rw [hy2, List.length_take]; omega)
           rw [← hy2] at hr15
           rw [← hy15] at hcut15
           have HV2 := Ak (show Kd.V k27 27 _ w.heap.size _ (.slice Ac y2.length cc) y2 from Kd.V_mk (by omega) hr15)
           have A7_ := A7.out
           rw [← hy1, ← hy2] at A7_
           obtain ⟨ys, hys⟩ : ∃ y_ : List (List S27), y_ = [y1, y2] := ⟨_, rfl⟩
           rw [← hys] at A7_
           clear A7
           have A7 := Ak A7_
           have Nys := Ak hys
           clear A7_ hys hr14 hr15 hC14 hroom14 hi014 hsz14 hc14 hA14 hy14 hy1 hy2
           have KY15 := Ak hy15
           clear hy15
           replace c8 := eq_true c8
           replace c9 := eq_true c9
           replace q14 := eq_true q14
           refine start_ (n := 10) (S := fun w' => True) (ds := []) #[F,F,F,F,F,F,F,F,F,F] (by kernel_rfl) rfl rfl trivial (fun hHeld => ?_); refine with_tabW impl_SamePolygon.tab10 impl_SamePolygon.bits10 (fun HT_ HW_ => ?_)
           generalize wr.drew = w13 at HVa HVc HN HB HV1 HV2 hHeld ⊢
           refine pure_ (i := 0) (N := some 36) (v := ?_) (a' := ?_) #[T,F,F,F,F,F,F,F,F,F] rfl rfl (any_of HT_.out (by kernel_rfl)) (fun _ _ _ h => h) (Or.inl ⟨by rfl, ?_⟩) ?_ ?_
           rotate_left
           ·intro w'
            go_simp
            with_reducible rfl
           rotate_left
           ·simp only [Act.put, sA, sB, sC, sD, sE]
            rfl
           refine pure_ (i := 1) (N := some 37) (v := ?_) (a' := ?_) #[T,T,F,F,F,F,F,F,F,F] rfl rfl (any_of HT_.out (by kernel_rfl)) (fun _ _ _ h => h) (Or.inl ⟨by rfl, ?_⟩) ?_ ?_
           rotate_left
           ·intro w'
            go_simp
            with_reducible rfl
           rotate_left
           ·simp only [Act.put, sA, sB, sC, sD, sE]
            rfl
           refine pure_ (i := 2) (N := some 38) (v := ?_) (a' := ?_) #[T,T,T,F,F,F,F,F,F,F] rfl rfl (any_of HT_.out (by kernel_rfl)) (fun _ _ _ h => h) (Or.inl ⟨by rfl, ?_⟩) ?_ ?_
           rotate_left
           ·intro w'
            go_simp
            with_reducible rfl
           rotate_left
           ·simp only [Act.put, sA, sB, sC, sD, sE]
            rfl
           refine pure_ (i := 3) (N := some 39) (v := ?_) (a' := ?_) #[T,T,T,T,F,F,F,F,F,F] rfl rfl (any_of HT_.out (by kernel_rfl)) (fun _ _ _ h => h) (Or.inl ⟨by rfl, ?_⟩) ?_ ?_
           rotate_left
           ·intro w'
            go_simp
            with_reducible rfl
           rotate_left
           ·simp only [Act.put, sA, sB, sC, sD, sE]
            rfl
           refine pure_ (i := 4) (N := some 40) (v := ?_) (a' := ?_) #[T,T,T,T,T,F,F,F,F,F] rfl rfl (any_of HT_.out (by kernel_rfl)) (fun _ _ _ h => h) (Or.inl ⟨by rfl, ?_⟩) ?_ ?_
           rotate_left
           ·intro w'
            go_simp
            with_reducible rfl
           rotate_left
           ·simp only [Act.put, sA, sB, sC, sD, sE]
            rfl
           refine pure_ (i := 5) (N := some 41) (v := ?_) (a' := ?_) #[T,T,T,T,T,T,F,F,F,F] rfl rfl (any_of HT_.out (by kernel_rfl)) (fun _ _ _ h => h) (Or.inl ⟨by rfl, ?_⟩) ?_ ?_
           rotate_left
           ·intro w'
            go_simp
            with_reducible rfl
           rotate_left
           ·simp only [Act.put, sA, sB, sC, sD, sE]
            rfl
           refine pure_ (i := 6) (N := some 42) (v := ?_) (a' := ?_) #[T,T,T,T,T,T,T,F,F,F] rfl rfl (any_of HT_.out (by kernel_rfl)) (fun _ _ _ h => h) (Or.inl ⟨by rfl, ?_⟩) ?_ ?_
           rotate_left
           ·intro w'
            go_simp
            with_reducible rfl
           rotate_left
           ·simp only [Act.put, sA, sB, sC, sD, sE]
            rfl
           refine one_ (i := 7) (N := some 43) #[T,T,T,T,T,T,T,T,F,F] rfl rfl (one_of HT_.out (by kernel_rfl)) (by decide) (fun K hK => ?_)
           refine Kd.N_lit_step (Kd.slice 27 k27) _ 23 ?hg (N' := 43) ?hd (xs := [y1, y2]) (inner := [.slice A14 y1.length c14, .slice Ac y2.length cc]) (ok := fun _ => True) (okp := fun _ => True) ?hr ?hp (fun _ hk => hk) trivial (Below.refl _ _) (Nat.le_refl _) (by simp) ?_; (case hd | hg => rfl); (case hr => first | (go_simp; done) | (go_simp; rfl)); (case hp => exact Reps.one (Kd.FK_slice_mk (Kd.V_reads' HV1.out).2.1 (Kd.V_F HV1.out)) (Reps.one (Kd.FK_slice_mk (Kd.V_reads' HV2.out).2.1 (Kd.V_F HV2.out)) (Reps.none _ _)))
           intro v114 w16 ho17 hb hg_ hnew_
           clear hg_ hnew_
           (first | rw [← Nys.out] at ho17 | (simp only [Int.reduceToNat] at ho17; rw [← Nys.out] at ho17))
           obtain ⟨Ao18, co18, rfl⟩ := Kd.N_slice ho17
           have n0_ := Ak (Kd.V_below (by (with_reducible repeat (first | apply Kd.V_alloc | apply Kd.V_drewN | apply Kd.V_drew)); exact HVa.out) hb)
           have n1_ := Ak (Kd.V_below (by (with_reducible repeat (first | apply Kd.V_alloc | apply Kd.V_drewN | apply Kd.V_drew)); exact HVc.out) hb)
           have n2_ := Ak (Kd.N_below (by (with_reducible repeat (first | apply Kd.N_alloc | apply Kd.N_drewN | apply Kd.N_drew)); exact HN.out) hb)
           have nB_ := Ak (below_step (by repeat (first | exact HB.out | apply bA | apply bD | apply bE)) hb)
           clear HVa
           have HVa := n0_
           clear n0_
           clear HVc
           have HVc := n1_
           clear n1_
           clear HN
           have HN := n2_
           clear n2_
           clear HB
           have HB := nB_
           clear nB_
           have HN2 := Ak ho17
           clear ho17 HV1 HV2 hb
           refine hK.out _ _ trivial (fun hHeld => ?_)
           clear hK K
           refine norm_ (a' := ?_) ?_ ?_
           rotate_left
           ·show Act.put _ (some 43) _ = _
            simp only [Act.put, sA, sB, sC, sD, sE]
            rfl
           refine one_ (i := 8) (N := some 44) #[T,T,T,T,T,T,T,T,T,F] rfl rfl (one_of HT_.out (by kernel_rfl)) (by decide) (fun K hK => ?_)
           refine goes_ Try.func74 (by kernel_rfl) rfl #[.slice Ao18 ys.length co18] (by rfl) rfl rfl (by (try simp only [List.map_toArray, List.map_cons, List.map_nil]); first | done | rfl | (simp only [List.length_drop, List.length_take]; rfl)) ?_
           with_reducible refine (impl_Point_74.calls k2 _ _ ys d _ ?side1 ?side2 A7.out).mono ?_
           (case side1 => repeat (first | exact (Kd.N_reads' HN2.out).2.2 | (with_reducible refine Kd.C_alloc ?_ _) | (with_reducible refine Kd.C_drewN ?_ _) | (with_reducible refine Kd.C_drew ?_)))
           (case side2 => exact (Kd.N_reads' HN2.out).2.1)
           rintro e w19 ⟨v117, rfl, ho0, hb⟩
           obtain ⟨Ad, cd, rfl⟩ := Kd.R_slice ho0
           refine ⟨_, rfl, ?_⟩
           have n0_ := Ak (Kd.V_below (by (with_reducible repeat (first | apply Kd.V_alloc | apply Kd.V_drewN | apply Kd.V_drew)); exact HVa.out) hb)
           have n1_ := Ak (Kd.V_below (by (with_reducible repeat (first | apply Kd.V_alloc | apply Kd.V_drewN | apply Kd.V_drew)); exact HVc.out) hb)
           have n2_ := Ak (Kd.N_below (by (with_reducible repeat (first | apply Kd.N_alloc | apply Kd.N_drewN | apply Kd.N_drew)); exact HN.out) hb)
           have nB_ := Ak (below_step (by repeat (first | exact HB.out | apply bA | apply bD | apply bE)) hb)
           clear HVa
           have HVa := n0_
           clear n0_
           clear HVc
           have HVc := n1_
           clear n1_
           clear HN
           have HN := n2_
           clear n2_
           clear HB
           have HB := nB_
           clear nB_
           have HVd := Ak (Kd.R_V (base' := w.heap.size) ho0)
           clear ho0 hb HN2
           refine hK.out _ _ trivial (fun hHeld => ?_)
           clear hK K
           refine norm_ (a' := ?_) ?_ ?_
           rotate_left
           ·show Act.put _ (some 44) _ = _
            simp only [Act.put, sA, sB, sC, sD, sE]
            rfl
           refine one_ (i := 9) (N := some 45) #[T,T,T,T,T,T,T,T,T,T] rfl rfl (one_of HT_.out (by kernel_rfl)) (by decide) (fun K hK => ?_)
           refine goes_ Try.func73 (by kernel_rfl) rfl #[.slice Aa a.length ca, .slice Ad d.length cd] (by rfl) rfl rfl (by (try simp only [List.map_toArray, List.map_cons, List.map_nil]); first | done | rfl | (simp only [List.length_drop, List.length_take]; rfl)) ?_
           with_reducible refine (impl_Point_73.calls k2 _ _ a _ _ d t2 _ ?side1 ?side2 ?side3 ?side4 A8.out).mono ?_
           (case side1 => exact (Kd.V_reads' HVa.out).2.2)
           (case side2 => exact (Kd.V_reads' HVa.out).2.1)
           (case side3 => exact (Kd.V_reads' HVd.out).2.2)
           (case side4 => exact (Kd.V_reads' HVd.out).2.1)
           rintro e w20 ⟨rfl, ⟨nd, rfl⟩⟩
           refine ⟨_, rfl, ?_⟩
           refine hK.out _ _ trivial (fun hHeld => ?_)
           clear hK K
           refine norm_ (a' := ?_) ?_ ?_
           rotate_left
           ·show Act.put _ (some 45) _ = _
            simp only [Act.put, sA, sB, sC, sD, sE]
            rfl
           refine done_ (done_of HT_.out (by kernel_rfl)) ?_
           by_cases d3 : t2 = true
           ·subst d3
            have H := HH.out
            rw [if_pos rfl] at H
            obtain rfl := Option.some.inj H
            have H := H'.out
            rw [if_pos rfl] at H
            obtain rfl := Option.some.inj H
            go_wp2
            go_ret
            exact ⟨by first | rfl | (simp [*] <;> rfl), (by repeat (first | exact HB.out | apply bA | apply bD | apply bE))⟩
           ·replace d3 := Bool.eq_false_iff.mpr d3
            subst d3
            have H := HH.out
            clear HH
            rw [if_neg (show ¬ (false = true) by decide)] at H
            have HH := Ak H
            clear H
            go_wp2
            go_roundg k2
            case measure => have := HK2.out; omega
            case rel => exact ⟨(wrap64 (i + 1)), (by first | rfl | (simp; done) | (simp [*]; done)), HH, ⟨by have := HK2.out; omega⟩, ⟨(by (with_reducible repeat (first | apply Kd.V_alloc | apply Kd.V_drewN | apply Kd.V_drew)); exact HVa.out)⟩, ⟨(by (with_reducible repeat (first | apply Kd.V_alloc | apply Kd.V_drewN | apply Kd.V_drew)); exact HVc.out)⟩, ⟨(by (with_reducible repeat (first | apply Kd.N_alloc | apply Kd.N_drewN | apply Kd.N_drew)); exact HN.out)⟩, ⟨(by repeat (first | exact HB.out | apply bA | apply bD | apply bE))⟩⟩
          ·rw [if_neg c9] at H
           exact absurd H (by simp)
         ·rw [if_neg c8] at H
          have c8b0 : decide (i < (c.length : Int)) = false := decide_eq_false c8
          obtain rfl := Option.some.inj H
          have H := H'.out
          clear H'
          rw [if_neg (show ¬ (false = true) by decide)] at H
          have H' := Ak H
          clear H
          go_wp2
          go_roundg k1
          case measure => omega
          case rel => exact ⟨(wrap64 (x + 1)), (by first | rfl | (simp; done) | (simp [*]; done)), H', ⟨by have := HK1.out; omega⟩, ⟨(by (with_reducible repeat (first | apply Kd.V_alloc | apply Kd.V_drewN | apply Kd.V_drew)); exact HVa.out)⟩, ⟨(by (with_reducible repeat (first | apply Kd.N_alloc | apply Kd.N_drewN | apply Kd.N_drew)); exact HN.out)⟩, ⟨(by repeat (first | exact HB.out | apply bA | apply bD | apply bE))⟩⟩
      ·rw [if_neg c3] at H
       exact absurd H (by simp)
     ·rw [if_neg c2] at H
      have c2b0 : decide (x < (cs.length : Int)) = false := decide_eq_false c2
      obtain rfl := Option.some.inj H
      go_wp2
      go_ret
      exact ⟨by first | rfl | (simp [*] <;> rfl), (by repeat (first | exact HB.out | apply bA | apply bD | apply bE))⟩
  ·replace d2 := Bool.eq_false_iff.mpr d2
   subst d2
   rw [if_neg (show ¬ (false = true) by decide)] at H
   obtain rfl := Option.some.inj H
   go_enter Try.func21, Try.ntmps21
   go_wp2_with (first | ((with_reducible refine gate_callee (f := 17) rfl ?_); refine goesL_ (some 11) rfl rfl Try.func17 (by kernel_rfl) rfl #[.slice A0 l0.length c0] rfl (by (try simp only [List.map_toArray, List.map_cons, List.map_nil]); first | done | rfl | (simp only [List.length_drop, List.length_take]; rfl)) ?_; (with_reducible refine (impl_PolygonOk.calls _ _ l0 true _ ?side1 ?side2 A1'.out).mono ?_); (case side1 => repeat (first | exact (Kd.C_below HR0.out HB.out) | (with_reducible refine Kd.C_alloc ?_ _) | (with_reducible refine Kd.C_drewN ?_ _) | (with_reducible refine Kd.C_drew ?_))); (case side2 => exact HC0.out); rintro e w1_ ⟨rfl, hb⟩; refine ⟨_, rfl, ?_⟩; have nB_ := Ak (below_step (by repeat (first | exact HB.out | apply bA | apply bD | apply bE)) hb); clear HB; have HB := nB_; clear nB_; (try clear hb); (try clear hk); (try clear hi)) | (go_at_call 17; (with_reducible refine (impl_PolygonOk.calls _ _ l1 false _ ?side1 ?side2 A2'.out).mono ?_); (case side1 => repeat (first | exact (Kd.C_below HR1.out HB.out) | (with_reducible refine Kd.C_alloc ?_ _) | (with_reducible refine Kd.C_drewN ?_ _) | (with_reducible refine Kd.C_drew ?_))); (case side2 => exact HC1.out); rintro e w2_ ⟨rfl, hb⟩; have nB_ := Ak (below_step (by repeat (first | exact HB.out | apply bA | apply bD | apply bE)) hb); clear HB; have HB := nB_; clear nB_; (try clear hb); (try clear hk); (try clear hi)))
   go_ret
   exact ⟨by first | rfl | (simp [*] <;> rfl), (by repeat (first | exact HB.out | apply bA | apply bD | apply bE))⟩
 ·replace d1 := Bool.eq_false_iff.mpr d1
  subst d1
  rw [if_neg (show ¬ (false = true) by decide)] at H
  obtain rfl := Option.some.inj H
  go_enter Try.func21, Try.ntmps21
  go_wp2_with (first | ((with_reducible refine gate_callee (f := 17) rfl ?_); refine goesL_ (some 11) rfl rfl Try.func17 (by kernel_rfl) rfl #[.slice A0 l0.length c0] rfl (by (try simp only [List.map_toArray, List.map_cons, List.map_nil]); first | done | rfl | (simp only [List.length_drop, List.length_take]; rfl)) ?_; (with_reducible refine (impl_PolygonOk.calls _ _ l0 false _ ?side1 ?side2 A1'.out).mono ?_); (case side1 => repeat (first | exact (Kd.C_below HR0.out HB.out) | (with_reducible refine Kd.C_alloc ?_ _) | (with_reducible refine Kd.C_drewN ?_ _) | (with_reducible refine Kd.C_drew ?_))); (case side2 => exact HC0.out); rintro e w1_ ⟨rfl, hb⟩; refine ⟨_, rfl, ?_⟩; have nB_ := Ak (below_step (by repeat (first | exact HB.out | apply bA | apply bD | apply bE)) hb); clear HB; have HB := nB_; clear nB_; (try clear hb); (try clear hk); (try clear hi)))
  go_ret
  exact ⟨by first | rfl | (simp [*] <;> rfl), (by repeat (first | exact HB.out | apply bA | apply bD | apply bE))⟩

end Go.Proofs.Ytphcblbkofiidaa.G
