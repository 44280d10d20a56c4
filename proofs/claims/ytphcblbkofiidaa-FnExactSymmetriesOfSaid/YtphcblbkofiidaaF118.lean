/- A Go function as a plain Lean function, and the proof that Go's call comes to its answer. No conditions but those in the theorem. Written by gen.py (a program of this session over the kit's print). -/
-- SHRUNK by pack.py
import Derived.Test.YtphcblbkofiidaaG0
import Derived.Test.YtphcblbkofiidaaE27
import Derived.Test.YtphcblbkofiidaaFA
namespace Go.Proofs.Ytphcblbkofiidaa.G
open Go.RowKit Go.Proofs.YtphcblbkofiidaaW.PrintWords Go.Proofs.YtphcblbkofiidaaW.PrintLast Go.Proofs.YtphcblbkofiidaaW.PrintMore Go.Proofs.YtphcblbkofiidaaW.PrintBits
attribute [local go_sem] max2_int min2_int max_two min_two max_three min_three max_four min_four   -- for this text's walks alone
set_option linter.unusedVariables false
set_option linter.unusedSimpArgs false

/-! ### spec_l02Meet: function 118 -/
def spec_l02Meet.onW (a0 a1 b0 b1 p0 p1 : Int) : Bool := (spec_l02On.f a0 a1 b0 b1 p0 p1).getD false
theorem spec_l02Meet.on_some (a0 a1 b0 b1 p0 p1 : Int) : spec_l02On.f a0 a1 b0 b1 p0 p1 = some (spec_l02Meet.onW a0 a1 b0 b1 p0 p1) := by
 have : ∃ r, spec_l02On.f a0 a1 b0 b1 p0 p1 = some r := by
  unfold spec_l02On.f spec_l02Cross.f
  simp only [Option.bind_some]
  split
  ·split
   ·split
    ·split
     ·exact ⟨_, rfl⟩
     ·exact ⟨_, rfl⟩
    ·exact ⟨_, rfl⟩
   ·exact ⟨_, rfl⟩
  ·exact ⟨_, rfl⟩
 obtain ⟨r, hr⟩ := this
 unfold spec_l02Meet.onW; rw [hr]; rfl
def spec_l02Meet.step (o : Bool) (xs : List S27) (p0 p1 : Int) : List S27 := if o = true then xs ++ [⟨p0, p1⟩] else xs
def spec_l02Meet.ends (a0 a1 b0 b1 p0 p1 q0 q1 : Int) (xs : List S27) (x : Int) : List S27 :=
 if x ≤ 0 then xs else if x ≤ 1 then spec_l02Meet.step (spec_l02Meet.onW a0 a1 b0 b1 p0 p1) xs p0 p1
 else spec_l02Meet.step (spec_l02Meet.onW a0 a1 b0 b1 q0 q1) (spec_l02Meet.step (spec_l02Meet.onW a0 a1 b0 b1 p0 p1) xs p0 p1) q0 q1
def spec_l02Meet.all (a0_0 a0_1 a1_0 a1_1 a2_0 a2_1 a3_0 a3_1 : Int) : List S27 := spec_l02Meet.ends a0_0 a0_1 a1_0 a1_1 a2_0 a2_1 a3_0 a3_1 (spec_l02Meet.ends a2_0 a2_1 a3_0 a3_1 a0_0 a0_1 a1_0 a1_1 [] 2) 2
def spec_l02Meet.neq (l : List S27) (x : Int) : Bool := !((rd_T27 l x).f0 == (rd_T27 l 0).f0 && ((rd_T27 l x).f1 == (rd_T27 l 0).f1))
def spec_l02Meet.tail (l : List S27) : Option Int := if (l.length : Int) = 0 then some 0 else if ((List.range l.length).any fun x => spec_l02Meet.neq l (x : Int)) = true then some 3 else some 1
def spec_l02Meet.f (a0_0 a0_1 a1_0 a1_1 a2_0 a2_1 a3_0 a3_1 : Int) : Option Int :=
 (spec_l02Cross.f a0_0 a0_1 a1_0 a1_1 a2_0 a2_1).bind fun x1 => (spec_l02Sign.f x1).bind fun s1 => (spec_l02Cross.f a0_0 a0_1 a1_0 a1_1 a3_0 a3_1).bind fun x2 => (spec_l02Sign.f x2).bind fun s2 =>
 (spec_l02Cross.f a2_0 a2_1 a3_0 a3_1 a0_0 a0_1).bind fun x3 => (spec_l02Sign.f x3).bind fun s3 => (spec_l02Cross.f a2_0 a2_1 a3_0 a3_1 a1_0 a1_1).bind fun x4 => (spec_l02Sign.f x4).bind fun s4 =>
 if (decide (wrap64 (s1 * s2) < 0) && decide (wrap64 (s3 * s4) < 0)) = true then some 2 else spec_l02Meet.tail (spec_l02Meet.all a0_0 a0_1 a1_0 a1_1 a2_0 a2_1 a3_0 a3_1)
def spec_l02Meet.okL (B : Nat) (L : List Nat) (k : Nat) : Prop := B ≤ k ∧ k ∉ L
structure spec_l02Meet.Inv (w wr : World) (g0 g1 g2 g3 : Nat) (a0_0 a0_1 a1_0 a1_1 a2_0 a2_1 a3_0 a3_1 : Int) : Prop where
 b0 : wr.heap[g0]? = some (.cells #[.int .i64 a0_0, .int .i64 a0_1] 27 (0, 0))
 b1 : wr.heap[g1]? = some (.cells #[.int .i64 a1_0, .int .i64 a1_1] 27 (0, 0))
 b2 : wr.heap[g2]? = some (.cells #[.int .i64 a2_0, .int .i64 a2_1] 27 (0, 0))
 b3 : wr.heap[g3]? = some (.cells #[.int .i64 a3_0, .int .i64 a3_1] 27 (0, 0))
 bel : Below w.heap.size w wr
theorem spec_l02Meet.Inv.below {w wr w2 : World} {g0 g1 g2 g3 : Nat} {a0_0 a0_1 a1_0 a1_1 a2_0 a2_1 a3_0 a3_1 : Int} (h : spec_l02Meet.Inv w wr g0 g1 g2 g3 a0_0 a0_1 a1_0 a1_1 a2_0 a2_1 a3_0 a3_1) (hb : Below wr.heap.size wr w2) : spec_l02Meet.Inv w w2 g0 g1 g2 g3 a0_0 a0_1 a1_0 a1_1 a2_0 a2_1 a3_0 a3_1 :=
 ⟨blk_below h.b0 hb, blk_below h.b1 hb, blk_below h.b2 hb, blk_below h.b3 hb, below_step h.bel hb⟩
theorem spec_l02Meet.Inv.grown {w wr w2 : World} {g0 g1 g2 g3 : Nat} {a0_0 a0_1 a1_0 a1_1 a2_0 a2_1 a3_0 a3_1 : Int} {row : Option Nat} (h : spec_l02Meet.Inv w wr g0 g1 g2 g3 a0_0 a0_1 a1_0 a1_1 a2_0 a2_1 a3_0 a3_1) (hg : wr.grownBy w2 row) (hb : Below w.heap.size w w2) (hr : ∀ k, row = some k → k ≠ g0 ∧ k ≠ g1 ∧ k ≠ g2 ∧ k ≠ g3) : spec_l02Meet.Inv w w2 g0 g1 g2 g3 a0_0 a0_1 a1_0 a1_1 a2_0 a2_1 a3_0 a3_1 :=
 ⟨blk_grown h.b0 hg (fun e => (hr _ e.symm).1 rfl), blk_grown h.b1 hg (fun e => (hr _ e.symm).2.1 rfl), blk_grown h.b2 hg (fun e => (hr _ e.symm).2.2.1 rfl), blk_grown h.b3 hg (fun e => (hr _ e.symm).2.2.2 rfl), hb⟩
theorem spec_l02Meet.fresh {w wr : World} {L : List Nat} {v : Value} {xs : List S27} {n : Nat} (h : Kd.R k27 27 wr w.heap.size (spec_l02Meet.okL w.heap.size L) v xs) (hn : wr.heap.size ≤ n) : Kd.R k27 27 wr w.heap.size (spec_l02Meet.okL w.heap.size (n :: L)) v xs :=
 Kd.R_mono (Kd.R_bound h) (fun k hk => ⟨hk.1.1, fun hm => by
  rcases List.mem_cons.1 hm with e | e
  ·have := hk.2.2.1; omega
  ·exact hk.1.2 e⟩)
theorem spec_l02Meet.two {w : World} {g : Nat} {p0 p1 q0 q1 : Int} (h : w.heap[g]? = some (.cells #[.int .i64 p0, .int .i64 p1, .int .i64 q0, .int .i64 q1] 27 (0, 0))) : Kd.C k27 w (some ⟨g, 0, none⟩) 2 [(⟨p0, p1⟩ : S27), ⟨q0, q1⟩] := by
 refine ⟨rfl, by omega, fun _ => ⟨_, rfl, fun j p hj => ?_⟩⟩
 match j, hj with
 | 0, hj =>
  simp at hj; subst hj
  refine ⟨[.int .i64 p0, .int .i64 p1], rfl, k27_mk _ _, fun i u hu => ?_⟩
  match i, hu with
  | 0, hu => simp at hu; subst hu; exact (blk_cell h 0).trans rfl
  | 1, hu => simp at hu; subst hu; exact (blk_cell h 1).trans rfl
  | i + 2, hu => simp at hu
 | 1, hj =>
  simp at hj; subst hj
  refine ⟨[.int .i64 q0, .int .i64 q1], rfl, k27_mk _ _, fun i u hu => ?_⟩
  match i, hu with
  | 0, hu => simp at hu; subst hu; exact (blk_cell h 2).trans rfl
  | 1, hu => simp at hu; subst hu; exact (blk_cell h 3).trans rfl
  | i + 2, hu => simp at hu
 | j + 2, hj => simp at hj
theorem spec_l02Meet.none_ {w : World} {g B : Nat} {ok : Nat → Prop} (h : w.heap[g]? = some (.cells #[] 27 (0, 0))) (hB : B ≤ g) (ho : ok g) : Kd.R k27 27 w B ok (.slice (some ⟨g, 0, none⟩) 0 0) [] :=
 ⟨fun k hk => (show g = k by simpa [Value.ownBlock] using hk) ▸ ho, [], ⟨rfl, .inr ⟨g, 0, #[], rfl, hB, h, Nat.le_refl _, Nat.zero_le _, rfl, rfl⟩⟩, Reps.none _ _⟩
section
variable {Pg : Program} {ops : Array Oper} {rest : List Oper} {o : Oper} {a : Act} {Q : Exit → Act → World → Prop}
theorem spec_l02Meet.lit_event {W : World} (hgd : o.guard = none) {N : Tmp} (_hd : o.dst = some N) {c : Array Value} {t : TypeId} {n : Nat}
  (hrun : (execOp a.eval o).run Pg W = .ok (.value (.slice (some ⟨W.heap.size, 0, none⟩) n n)) (W.alloc (.cells c t (0, 0))))
  (h : ∀ g, g = W.heap.size → ∀ w1, w1.heap[g]? = some (.cells c t (0, 0)) → Below W.heap.size W w1 → wpList Pg ops Q rest (a.put o.dst (.slice (some ⟨g, 0, none⟩) n n)) w1) : wpList Pg ops Q (o :: rest) a W :=
 Kd.event_run hgd hrun (h _ rfl _ (blk_new W _) (below_alloc (Below.refl _ _) _))
end
theorem spec_l02Meet.ends_0 (a0 a1 b0 b1 p0 p1 q0 q1 : Int) (xs : List S27) : spec_l02Meet.ends a0 a1 b0 b1 p0 p1 q0 q1 xs 0 = xs := by unfold spec_l02Meet.ends; rw [if_pos (Int.le_refl 0)]
theorem spec_l02Meet.ends_succ (a0 a1 b0 b1 p0 p1 q0 q1 : Int) (xs : List S27) (x : Int) (h0 : 0 ≤ x) (h1 : x < 2) : spec_l02Meet.ends a0 a1 b0 b1 p0 p1 q0 q1 xs (x + 1) = spec_l02Meet.step (spec_l02Meet.onW a0 a1 b0 b1 (rd_T27 [(⟨p0, p1⟩ : S27), ⟨q0, q1⟩] x).f0 (rd_T27 [(⟨p0, p1⟩ : S27), ⟨q0, q1⟩] x).f1) (spec_l02Meet.ends a0 a1 b0 b1 p0 p1 q0 q1 xs x) (rd_T27 [(⟨p0, p1⟩ : S27), ⟨q0, q1⟩] x).f0 (rd_T27 [(⟨p0, p1⟩ : S27), ⟨q0, q1⟩] x).f1 := by
 rcases (show x = 0 ∨ x = 1 by omega) with rfl | rfl <;> rfl
theorem spec_l02Meet.w64 {x : Int} (h0 : -9223372036854775808 ≤ x) (h1 : x ≤ 9223372036854775807) : wrap64 x = x := by unfold wrap64; omega

set_option maxHeartbeats 16000000 in
set_option maxRecDepth 100000 in
attribute [local go_sem high] eqA27 in
theorem spec_l02Meet.calls (a0_0 a0_1 a1_0 a1_1 a2_0 a2_1 a3_0 a3_1 : Int) (r : Int) (w : World) (h : spec_l02Meet.f a0_0 a0_1 a1_0 a1_1 a2_0 a2_1 a3_0 a3_1 = some r) :
  Calls Try.prog 118 #[.agg #[.int .i64 a0_0, .int .i64 a0_1], .agg #[.int .i64 a1_0, .int .i64 a1_1], .agg #[.int .i64 a2_0, .int .i64 a2_1], .agg #[.int .i64 a3_0, .int .i64 a3_1]] w fun e w' => e = .returned (.int .i64 r) ∧ Below w.heap.size w w' := by
 have hu1 := Try.underlying27
 have hu2 := Try.underlying23
 have HF := h
 unfold spec_l02Meet.f at HF
 clear h
 replace HF := Option.bind_eq_some_iff.mp HF
 obtain ⟨x1, Hx1, HF⟩ := HF
 replace Hx1 := Ak Hx1
 replace HF := Option.bind_eq_some_iff.mp HF
 obtain ⟨s1, Hs1, HF⟩ := HF
 replace Hs1 := Ak Hs1
 replace HF := Option.bind_eq_some_iff.mp HF
 obtain ⟨x2, Hx2, HF⟩ := HF
 replace Hx2 := Ak Hx2
 replace HF := Option.bind_eq_some_iff.mp HF
 obtain ⟨s2, Hs2, HF⟩ := HF
 replace Hs2 := Ak Hs2
 replace HF := Option.bind_eq_some_iff.mp HF
 obtain ⟨x3, Hx3, HF⟩ := HF
 replace Hx3 := Ak Hx3
 replace HF := Option.bind_eq_some_iff.mp HF
 obtain ⟨s3, Hs3, HF⟩ := HF
 replace Hs3 := Ak Hs3
 replace HF := Option.bind_eq_some_iff.mp HF
 obtain ⟨x4, Hx4, HF⟩ := HF
 replace Hx4 := Ak Hx4
 replace HF := Option.bind_eq_some_iff.mp HF
 obtain ⟨s4, Hs4, HF⟩ := HF
 replace Hs4 := Ak Hs4
 by_cases k0 : (decide (wrap64 (s1 * s2) < 0) && decide (wrap64 (s3 * s4) < 0)) = true
 ·rw [if_pos k0] at HF
  obtain rfl := Option.some.inj HF
  rw [Bool.and_eq_true] at k0
  obtain ⟨k1, k2⟩ := k0
  go_enter Try.func118, Try.ntmps118
  go_wp2_with (first | ((with_reducible refine gate_dst (N := 4) rfl ?_); refine box_event ?hg (N := 4) ?hd (cs := #[.int .i64 a0_0, .int .i64 a0_1]) (t := 27) ?hr ?_; (case hd | hg => rfl); (case hr => first | (go_simp; done) | (go_simp; rfl)); intro g0 hg0 w0 hbox hb; have B00 := Ak hbox; have HB0 := Ak (hb); have G0 : w.heap.size ≤ g0 := (by rw [hg0]; exact Nat.le_refl _); clear hbox hb hg0) | ((with_reducible refine gate_dst (N := 5) rfl ?_); refine box_event ?hg (N := 5) ?hd (cs := #[.int .i64 a1_0, .int .i64 a1_1]) (t := 27) ?hr ?_; (case hd | hg => rfl); (case hr => first | (go_simp; done) | (go_simp; rfl)); intro g1 hg1 w1 hbox hb; have B01 := Ak (blk_below B00.out hb); have B11 := Ak hbox; have HB1 := Ak (below_step HB0.out hb); have G1 : w.heap.size ≤ g1 := (by rw [hg1]; exact below_size HB0.out); clear hbox hb hg1) | ((with_reducible refine gate_dst (N := 6) rfl ?_); refine box_event ?hg (N := 6) ?hd (cs := #[.int .i64 a2_0, .int .i64 a2_1]) (t := 27) ?hr ?_; (case hd | hg => rfl); (case hr => first | (go_simp; done) | (go_simp; rfl)); intro g2 hg2 w2 hbox hb; have B02 := Ak (blk_below B01.out hb); have B12 := Ak (blk_below B11.out hb); have B22 := Ak hbox; have HB2 := Ak (below_step HB1.out hb); have G2 : w.heap.size ≤ g2 := (by rw [hg2]; exact below_size HB1.out); clear hbox hb hg2) | ((with_reducible refine gate_dst (N := 7) rfl ?_); refine box_event ?hg (N := 7) ?hd (cs := #[.int .i64 a3_0, .int .i64 a3_1]) (t := 27) ?hr ?_; (case hd | hg => rfl); (case hr => first | (go_simp; done) | (go_simp; rfl)); intro g3 hg3 w3 hbox hb; have B03 := Ak (blk_below B02.out hb); have B13 := Ak (blk_below B12.out hb); have B23 := Ak (blk_below B22.out hb); have B33 := Ak hbox; have HB3 := Ak (below_step HB2.out hb); have G3 : w.heap.size ≤ g3 := (by rw [hg3]; exact below_size HB2.out); clear hbox hb hg3; have HI := Ak (show spec_l02Meet.Inv w w3 g0 g1 g2 g3 a0_0 a0_1 a1_0 a1_1 a2_0 a2_1 a3_0 a3_1 from ⟨B03.out, B13.out, B23.out, B33.out, HB3.out⟩); clear B00 B01 B02 B03 B11 B12 B13 B22 B23 B33 HB0 HB1 HB2 HB3; have cc0 : w3.cell? ⟨g0, 0, none⟩ = some (.int .i64 a0_0) := (blk_cell HI.out.b0 0).trans rfl; have ccq0 : w3.cell? ⟨g0, 1, none⟩ = some (.int .i64 a0_1) := (blk_cell HI.out.b0 1).trans rfl; have cc1 : w3.cell? ⟨g1, 0, none⟩ = some (.int .i64 a1_0) := (blk_cell HI.out.b1 0).trans rfl; have ccq1 : w3.cell? ⟨g1, 1, none⟩ = some (.int .i64 a1_1) := (blk_cell HI.out.b1 1).trans rfl; have cc2 : w3.cell? ⟨g2, 0, none⟩ = some (.int .i64 a2_0) := (blk_cell HI.out.b2 0).trans rfl; have ccq2 : w3.cell? ⟨g2, 1, none⟩ = some (.int .i64 a2_1) := (blk_cell HI.out.b2 1).trans rfl; have cc3 : w3.cell? ⟨g3, 0, none⟩ = some (.int .i64 a3_0) := (blk_cell HI.out.b3 0).trans rfl; have ccq3 : w3.cell? ⟨g3, 1, none⟩ = some (.int .i64 a3_1) := (blk_cell HI.out.b3 1).trans rfl) | ((with_reducible refine gate_callee (f := 121) rfl ?_); refine goesL_ (some 23) rfl rfl Try.func121 (by kernel_rfl) rfl #[.agg #[.int .i64 a0_0, .int .i64 a0_1], .agg #[.int .i64 a1_0, .int .i64 a1_1], .agg #[.int .i64 a2_0, .int .i64 a2_1]] rfl (by (try simp only [List.map_toArray, List.map_cons, List.map_nil]); first | done | rfl) ?_; (with_reducible refine (spec_l02Cross.calls a0_0 a0_1 a1_0 a1_1 a2_0 a2_1 x1 _ Hx1.out).mono ?_); rintro e wn ⟨rfl, hb⟩; refine ⟨_, rfl, ?_⟩; replace HI := Ak (HI.out.below hb); clear hb; clear cc0 ccq0 cc1 ccq1 cc2 ccq2 cc3 ccq3; have cc0 : wn.cell? ⟨g0, 0, none⟩ = some (.int .i64 a0_0) := (blk_cell HI.out.b0 0).trans rfl; have ccq0 : wn.cell? ⟨g0, 1, none⟩ = some (.int .i64 a0_1) := (blk_cell HI.out.b0 1).trans rfl; have cc1 : wn.cell? ⟨g1, 0, none⟩ = some (.int .i64 a1_0) := (blk_cell HI.out.b1 0).trans rfl; have ccq1 : wn.cell? ⟨g1, 1, none⟩ = some (.int .i64 a1_1) := (blk_cell HI.out.b1 1).trans rfl; have cc2 : wn.cell? ⟨g2, 0, none⟩ = some (.int .i64 a2_0) := (blk_cell HI.out.b2 0).trans rfl; have ccq2 : wn.cell? ⟨g2, 1, none⟩ = some (.int .i64 a2_1) := (blk_cell HI.out.b2 1).trans rfl; have cc3 : wn.cell? ⟨g3, 0, none⟩ = some (.int .i64 a3_0) := (blk_cell HI.out.b3 0).trans rfl; have ccq3 : wn.cell? ⟨g3, 1, none⟩ = some (.int .i64 a3_1) := (blk_cell HI.out.b3 1).trans rfl) | ((with_reducible refine gate_callee (f := 130) rfl ?_); refine goesL_ (some 24) rfl rfl Try.func130 (by kernel_rfl) rfl #[.int .i64 x1] rfl (by (try simp only [List.map_toArray, List.map_cons, List.map_nil]); first | done | rfl) ?_; (with_reducible refine (spec_l02Sign.calls x1 s1 _ Hs1.out).mono ?_); rintro e wn ⟨rfl, hd⟩; refine ⟨_, rfl, ?_⟩; replace HI := Ak (HI.out.below hd.below); clear hd; clear cc0 ccq0 cc1 ccq1 cc2 ccq2 cc3 ccq3; have cc0 : wn.cell? ⟨g0, 0, none⟩ = some (.int .i64 a0_0) := (blk_cell HI.out.b0 0).trans rfl; have ccq0 : wn.cell? ⟨g0, 1, none⟩ = some (.int .i64 a0_1) := (blk_cell HI.out.b0 1).trans rfl; have cc1 : wn.cell? ⟨g1, 0, none⟩ = some (.int .i64 a1_0) := (blk_cell HI.out.b1 0).trans rfl; have ccq1 : wn.cell? ⟨g1, 1, none⟩ = some (.int .i64 a1_1) := (blk_cell HI.out.b1 1).trans rfl; have cc2 : wn.cell? ⟨g2, 0, none⟩ = some (.int .i64 a2_0) := (blk_cell HI.out.b2 0).trans rfl; have ccq2 : wn.cell? ⟨g2, 1, none⟩ = some (.int .i64 a2_1) := (blk_cell HI.out.b2 1).trans rfl; have cc3 : wn.cell? ⟨g3, 0, none⟩ = some (.int .i64 a3_0) := (blk_cell HI.out.b3 0).trans rfl; have ccq3 : wn.cell? ⟨g3, 1, none⟩ = some (.int .i64 a3_1) := (blk_cell HI.out.b3 1).trans rfl) | ((with_reducible refine gate_callee (f := 121) rfl ?_); refine goesL_ (some 28) rfl rfl Try.func121 (by kernel_rfl) rfl #[.agg #[.int .i64 a0_0, .int .i64 a0_1], .agg #[.int .i64 a1_0, .int .i64 a1_1], .agg #[.int .i64 a3_0, .int .i64 a3_1]] rfl (by (try simp only [List.map_toArray, List.map_cons, List.map_nil]); first | done | rfl) ?_; (with_reducible refine (spec_l02Cross.calls a0_0 a0_1 a1_0 a1_1 a3_0 a3_1 x2 _ Hx2.out).mono ?_); rintro e wn ⟨rfl, hb⟩; refine ⟨_, rfl, ?_⟩; replace HI := Ak (HI.out.below hb); clear hb; clear cc0 ccq0 cc1 ccq1 cc2 ccq2 cc3 ccq3; have cc0 : wn.cell? ⟨g0, 0, none⟩ = some (.int .i64 a0_0) := (blk_cell HI.out.b0 0).trans rfl; have ccq0 : wn.cell? ⟨g0, 1, none⟩ = some (.int .i64 a0_1) := (blk_cell HI.out.b0 1).trans rfl; have cc1 : wn.cell? ⟨g1, 0, none⟩ = some (.int .i64 a1_0) := (blk_cell HI.out.b1 0).trans rfl; have ccq1 : wn.cell? ⟨g1, 1, none⟩ = some (.int .i64 a1_1) := (blk_cell HI.out.b1 1).trans rfl; have cc2 : wn.cell? ⟨g2, 0, none⟩ = some (.int .i64 a2_0) := (blk_cell HI.out.b2 0).trans rfl; have ccq2 : wn.cell? ⟨g2, 1, none⟩ = some (.int .i64 a2_1) := (blk_cell HI.out.b2 1).trans rfl; have cc3 : wn.cell? ⟨g3, 0, none⟩ = some (.int .i64 a3_0) := (blk_cell HI.out.b3 0).trans rfl; have ccq3 : wn.cell? ⟨g3, 1, none⟩ = some (.int .i64 a3_1) := (blk_cell HI.out.b3 1).trans rfl) | ((with_reducible refine gate_callee (f := 130) rfl ?_); refine goesL_ (some 29) rfl rfl Try.func130 (by kernel_rfl) rfl #[.int .i64 x2] rfl (by (try simp only [List.map_toArray, List.map_cons, List.map_nil]); first | done | rfl) ?_; (with_reducible refine (spec_l02Sign.calls x2 s2 _ Hs2.out).mono ?_); rintro e wn ⟨rfl, hd⟩; refine ⟨_, rfl, ?_⟩; replace HI := Ak (HI.out.below hd.below); clear hd; clear cc0 ccq0 cc1 ccq1 cc2 ccq2 cc3 ccq3; have cc0 : wn.cell? ⟨g0, 0, none⟩ = some (.int .i64 a0_0) := (blk_cell HI.out.b0 0).trans rfl; have ccq0 : wn.cell? ⟨g0, 1, none⟩ = some (.int .i64 a0_1) := (blk_cell HI.out.b0 1).trans rfl; have cc1 : wn.cell? ⟨g1, 0, none⟩ = some (.int .i64 a1_0) := (blk_cell HI.out.b1 0).trans rfl; have ccq1 : wn.cell? ⟨g1, 1, none⟩ = some (.int .i64 a1_1) := (blk_cell HI.out.b1 1).trans rfl; have cc2 : wn.cell? ⟨g2, 0, none⟩ = some (.int .i64 a2_0) := (blk_cell HI.out.b2 0).trans rfl; have ccq2 : wn.cell? ⟨g2, 1, none⟩ = some (.int .i64 a2_1) := (blk_cell HI.out.b2 1).trans rfl; have cc3 : wn.cell? ⟨g3, 0, none⟩ = some (.int .i64 a3_0) := (blk_cell HI.out.b3 0).trans rfl; have ccq3 : wn.cell? ⟨g3, 1, none⟩ = some (.int .i64 a3_1) := (blk_cell HI.out.b3 1).trans rfl) | ((with_reducible refine gate_callee (f := 121) rfl ?_); refine goesL_ (some 33) rfl rfl Try.func121 (by kernel_rfl) rfl #[.agg #[.int .i64 a2_0, .int .i64 a2_1], .agg #[.int .i64 a3_0, .int .i64 a3_1], .agg #[.int .i64 a0_0, .int .i64 a0_1]] rfl (by (try simp only [List.map_toArray, List.map_cons, List.map_nil]); first | done | rfl) ?_; (with_reducible refine (spec_l02Cross.calls a2_0 a2_1 a3_0 a3_1 a0_0 a0_1 x3 _ Hx3.out).mono ?_); rintro e wn ⟨rfl, hb⟩; refine ⟨_, rfl, ?_⟩; replace HI := Ak (HI.out.below hb); clear hb; clear cc0 ccq0 cc1 ccq1 cc2 ccq2 cc3 ccq3; have cc0 : wn.cell? ⟨g0, 0, none⟩ = some (.int .i64 a0_0) := (blk_cell HI.out.b0 0).trans rfl; have ccq0 : wn.cell? ⟨g0, 1, none⟩ = some (.int .i64 a0_1) := (blk_cell HI.out.b0 1).trans rfl; have cc1 : wn.cell? ⟨g1, 0, none⟩ = some (.int .i64 a1_0) := (blk_cell HI.out.b1 0).trans rfl; have ccq1 : wn.cell? ⟨g1, 1, none⟩ = some (.int .i64 a1_1) := (blk_cell HI.out.b1 1).trans rfl; have cc2 : wn.cell? ⟨g2, 0, none⟩ = some (.int .i64 a2_0) := (blk_cell HI.out.b2 0).trans rfl; have ccq2 : wn.cell? ⟨g2, 1, none⟩ = some (.int .i64 a2_1) := (blk_cell HI.out.b2 1).trans rfl; have cc3 : wn.cell? ⟨g3, 0, none⟩ = some (.int .i64 a3_0) := (blk_cell HI.out.b3 0).trans rfl; have ccq3 : wn.cell? ⟨g3, 1, none⟩ = some (.int .i64 a3_1) := (blk_cell HI.out.b3 1).trans rfl) | ((with_reducible refine gate_callee (f := 130) rfl ?_); refine goesL_ (some 34) rfl rfl Try.func130 (by kernel_rfl) rfl #[.int .i64 x3] rfl (by (try simp only [List.map_toArray, List.map_cons, List.map_nil]); first | done | rfl) ?_; (with_reducible refine (spec_l02Sign.calls x3 s3 _ Hs3.out).mono ?_); rintro e wn ⟨rfl, hd⟩; refine ⟨_, rfl, ?_⟩; replace HI := Ak (HI.out.below hd.below); clear hd; clear cc0 ccq0 cc1 ccq1 cc2 ccq2 cc3 ccq3; have cc0 : wn.cell? ⟨g0, 0, none⟩ = some (.int .i64 a0_0) := (blk_cell HI.out.b0 0).trans rfl; have ccq0 : wn.cell? ⟨g0, 1, none⟩ = some (.int .i64 a0_1) := (blk_cell HI.out.b0 1).trans rfl; have cc1 : wn.cell? ⟨g1, 0, none⟩ = some (.int .i64 a1_0) := (blk_cell HI.out.b1 0).trans rfl; have ccq1 : wn.cell? ⟨g1, 1, none⟩ = some (.int .i64 a1_1) := (blk_cell HI.out.b1 1).trans rfl; have cc2 : wn.cell? ⟨g2, 0, none⟩ = some (.int .i64 a2_0) := (blk_cell HI.out.b2 0).trans rfl; have ccq2 : wn.cell? ⟨g2, 1, none⟩ = some (.int .i64 a2_1) := (blk_cell HI.out.b2 1).trans rfl; have cc3 : wn.cell? ⟨g3, 0, none⟩ = some (.int .i64 a3_0) := (blk_cell HI.out.b3 0).trans rfl; have ccq3 : wn.cell? ⟨g3, 1, none⟩ = some (.int .i64 a3_1) := (blk_cell HI.out.b3 1).trans rfl) | ((with_reducible refine gate_callee (f := 121) rfl ?_); refine goesL_ (some 38) rfl rfl Try.func121 (by kernel_rfl) rfl #[.agg #[.int .i64 a2_0, .int .i64 a2_1], .agg #[.int .i64 a3_0, .int .i64 a3_1], .agg #[.int .i64 a1_0, .int .i64 a1_1]] rfl (by (try simp only [List.map_toArray, List.map_cons, List.map_nil]); first | done | rfl) ?_; (with_reducible refine (spec_l02Cross.calls a2_0 a2_1 a3_0 a3_1 a1_0 a1_1 x4 _ Hx4.out).mono ?_); rintro e wn ⟨rfl, hb⟩; refine ⟨_, rfl, ?_⟩; replace HI := Ak (HI.out.below hb); clear hb; clear cc0 ccq0 cc1 ccq1 cc2 ccq2 cc3 ccq3; have cc0 : wn.cell? ⟨g0, 0, none⟩ = some (.int .i64 a0_0) := (blk_cell HI.out.b0 0).trans rfl; have ccq0 : wn.cell? ⟨g0, 1, none⟩ = some (.int .i64 a0_1) := (blk_cell HI.out.b0 1).trans rfl; have cc1 : wn.cell? ⟨g1, 0, none⟩ = some (.int .i64 a1_0) := (blk_cell HI.out.b1 0).trans rfl; have ccq1 : wn.cell? ⟨g1, 1, none⟩ = some (.int .i64 a1_1) := (blk_cell HI.out.b1 1).trans rfl; have cc2 : wn.cell? ⟨g2, 0, none⟩ = some (.int .i64 a2_0) := (blk_cell HI.out.b2 0).trans rfl; have ccq2 : wn.cell? ⟨g2, 1, none⟩ = some (.int .i64 a2_1) := (blk_cell HI.out.b2 1).trans rfl; have cc3 : wn.cell? ⟨g3, 0, none⟩ = some (.int .i64 a3_0) := (blk_cell HI.out.b3 0).trans rfl; have ccq3 : wn.cell? ⟨g3, 1, none⟩ = some (.int .i64 a3_1) := (blk_cell HI.out.b3 1).trans rfl) | ((with_reducible refine gate_callee (f := 130) rfl ?_); refine goesL_ (some 39) rfl rfl Try.func130 (by kernel_rfl) rfl #[.int .i64 x4] rfl (by (try simp only [List.map_toArray, List.map_cons, List.map_nil]); first | done | rfl) ?_; (with_reducible refine (spec_l02Sign.calls x4 s4 _ Hs4.out).mono ?_); rintro e wn ⟨rfl, hd⟩; refine ⟨_, rfl, ?_⟩; replace HI := Ak (HI.out.below hd.below); clear hd; clear cc0 ccq0 cc1 ccq1 cc2 ccq2 cc3 ccq3; have cc0 : wn.cell? ⟨g0, 0, none⟩ = some (.int .i64 a0_0) := (blk_cell HI.out.b0 0).trans rfl; have ccq0 : wn.cell? ⟨g0, 1, none⟩ = some (.int .i64 a0_1) := (blk_cell HI.out.b0 1).trans rfl; have cc1 : wn.cell? ⟨g1, 0, none⟩ = some (.int .i64 a1_0) := (blk_cell HI.out.b1 0).trans rfl; have ccq1 : wn.cell? ⟨g1, 1, none⟩ = some (.int .i64 a1_1) := (blk_cell HI.out.b1 1).trans rfl; have cc2 : wn.cell? ⟨g2, 0, none⟩ = some (.int .i64 a2_0) := (blk_cell HI.out.b2 0).trans rfl; have ccq2 : wn.cell? ⟨g2, 1, none⟩ = some (.int .i64 a2_1) := (blk_cell HI.out.b2 1).trans rfl; have cc3 : wn.cell? ⟨g3, 0, none⟩ = some (.int .i64 a3_0) := (blk_cell HI.out.b3 0).trans rfl; have ccq3 : wn.cell? ⟨g3, 1, none⟩ = some (.int .i64 a3_1) := (blk_cell HI.out.b3 1).trans rfl))
  go_ret
  exact ⟨rfl, HI.out.bel⟩
 ·rw [if_neg k0] at HF
  replace HF := Ak HF
  obtain ⟨b, hb0⟩ : ∃ b, Aside0 ((decide (wrap64 (s1 * s2) < 0) && decide (wrap64 (s3 * s4) < 0)) = b) := ⟨_, ⟨rfl⟩⟩
  have k0' := Bool.eq_false_iff.mpr k0
  clear k0
  go_enter Try.func118, Try.ntmps118
  go_upto_region 5 with (first | ((with_reducible refine gate_dst (N := 4) rfl ?_); refine box_event ?hg (N := 4) ?hd (cs := #[.int .i64 a0_0, .int .i64 a0_1]) (t := 27) ?hr ?_; (case hd | hg => rfl); (case hr => first | (go_simp; done) | (go_simp; rfl)); intro g0 hg0 w0 hbox hb; have B00 := Ak hbox; have HB0 := Ak (hb); have G0 : w.heap.size ≤ g0 := (by rw [hg0]; exact Nat.le_refl _); clear hbox hb hg0) | ((with_reducible refine gate_dst (N := 5) rfl ?_); refine box_event ?hg (N := 5) ?hd (cs := #[.int .i64 a1_0, .int .i64 a1_1]) (t := 27) ?hr ?_; (case hd | hg => rfl); (case hr => first | (go_simp; done) | (go_simp; rfl)); intro g1 hg1 w1 hbox hb; have B01 := Ak (blk_below B00.out hb); have B11 := Ak hbox; have HB1 := Ak (below_step HB0.out hb); have G1 : w.heap.size ≤ g1 := (by rw [hg1]; exact below_size HB0.out); clear hbox hb hg1) | ((with_reducible refine gate_dst (N := 6) rfl ?_); refine box_event ?hg (N := 6) ?hd (cs := #[.int .i64 a2_0, .int .i64 a2_1]) (t := 27) ?hr ?_; (case hd | hg => rfl); (case hr => first | (go_simp; done) | (go_simp; rfl)); intro g2 hg2 w2 hbox hb; have B02 := Ak (blk_below B01.out hb); have B12 := Ak (blk_below B11.out hb); have B22 := Ak hbox; have HB2 := Ak (below_step HB1.out hb); have G2 : w.heap.size ≤ g2 := (by rw [hg2]; exact below_size HB1.out); clear hbox hb hg2) | ((with_reducible refine gate_dst (N := 7) rfl ?_); refine box_event ?hg (N := 7) ?hd (cs := #[.int .i64 a3_0, .int .i64 a3_1]) (t := 27) ?hr ?_; (case hd | hg => rfl); (case hr => first | (go_simp; done) | (go_simp; rfl)); intro g3 hg3 w3 hbox hb; have B03 := Ak (blk_below B02.out hb); have B13 := Ak (blk_below B12.out hb); have B23 := Ak (blk_below B22.out hb); have B33 := Ak hbox; have HB3 := Ak (below_step HB2.out hb); have G3 : w.heap.size ≤ g3 := (by rw [hg3]; exact below_size HB2.out); clear hbox hb hg3; have HI := Ak (show spec_l02Meet.Inv w w3 g0 g1 g2 g3 a0_0 a0_1 a1_0 a1_1 a2_0 a2_1 a3_0 a3_1 from ⟨B03.out, B13.out, B23.out, B33.out, HB3.out⟩); clear B00 B01 B02 B03 B11 B12 B13 B22 B23 B33 HB0 HB1 HB2 HB3; have cc0 : w3.cell? ⟨g0, 0, none⟩ = some (.int .i64 a0_0) := (blk_cell HI.out.b0 0).trans rfl; have ccq0 : w3.cell? ⟨g0, 1, none⟩ = some (.int .i64 a0_1) := (blk_cell HI.out.b0 1).trans rfl; have cc1 : w3.cell? ⟨g1, 0, none⟩ = some (.int .i64 a1_0) := (blk_cell HI.out.b1 0).trans rfl; have ccq1 : w3.cell? ⟨g1, 1, none⟩ = some (.int .i64 a1_1) := (blk_cell HI.out.b1 1).trans rfl; have cc2 : w3.cell? ⟨g2, 0, none⟩ = some (.int .i64 a2_0) := (blk_cell HI.out.b2 0).trans rfl; have ccq2 : w3.cell? ⟨g2, 1, none⟩ = some (.int .i64 a2_1) := (blk_cell HI.out.b2 1).trans rfl; have cc3 : w3.cell? ⟨g3, 0, none⟩ = some (.int .i64 a3_0) := (blk_cell HI.out.b3 0).trans rfl; have ccq3 : w3.cell? ⟨g3, 1, none⟩ = some (.int .i64 a3_1) := (blk_cell HI.out.b3 1).trans rfl) | ((with_reducible refine gate_callee (f := 121) rfl ?_); refine goesL_ (some 23) rfl rfl Try.func121 (by kernel_rfl) rfl #[.agg #[.int .i64 a0_0, .int .i64 a0_1], .agg #[.int .i64 a1_0, .int .i64 a1_1], .agg #[.int .i64 a2_0, .int .i64 a2_1]] rfl (by (try simp only [List.map_toArray, List.map_cons, List.map_nil]); first | done | rfl) ?_; (with_reducible refine (spec_l02Cross.calls a0_0 a0_1 a1_0 a1_1 a2_0 a2_1 x1 _ Hx1.out).mono ?_); rintro e wn ⟨rfl, hb⟩; refine ⟨_, rfl, ?_⟩; replace HI := Ak (HI.out.below hb); clear hb; clear cc0 ccq0 cc1 ccq1 cc2 ccq2 cc3 ccq3; have cc0 : wn.cell? ⟨g0, 0, none⟩ = some (.int .i64 a0_0) := (blk_cell HI.out.b0 0).trans rfl; have ccq0 : wn.cell? ⟨g0, 1, none⟩ = some (.int .i64 a0_1) := (blk_cell HI.out.b0 1).trans rfl; have cc1 : wn.cell? ⟨g1, 0, none⟩ = some (.int .i64 a1_0) := (blk_cell HI.out.b1 0).trans rfl; have ccq1 : wn.cell? ⟨g1, 1, none⟩ = some (.int .i64 a1_1) := (blk_cell HI.out.b1 1).trans rfl; have cc2 : wn.cell? ⟨g2, 0, none⟩ = some (.int .i64 a2_0) := (blk_cell HI.out.b2 0).trans rfl; have ccq2 : wn.cell? ⟨g2, 1, none⟩ = some (.int .i64 a2_1) := (blk_cell HI.out.b2 1).trans rfl; have cc3 : wn.cell? ⟨g3, 0, none⟩ = some (.int .i64 a3_0) := (blk_cell HI.out.b3 0).trans rfl; have ccq3 : wn.cell? ⟨g3, 1, none⟩ = some (.int .i64 a3_1) := (blk_cell HI.out.b3 1).trans rfl) | ((with_reducible refine gate_callee (f := 130) rfl ?_); refine goesL_ (some 24) rfl rfl Try.func130 (by kernel_rfl) rfl #[.int .i64 x1] rfl (by (try simp only [List.map_toArray, List.map_cons, List.map_nil]); first | done | rfl) ?_; (with_reducible refine (spec_l02Sign.calls x1 s1 _ Hs1.out).mono ?_); rintro e wn ⟨rfl, hd⟩; refine ⟨_, rfl, ?_⟩; replace HI := Ak (HI.out.below hd.below); clear hd; clear cc0 ccq0 cc1 ccq1 cc2 ccq2 cc3 ccq3; have cc0 : wn.cell? ⟨g0, 0, none⟩ = some (.int .i64 a0_0) := (blk_cell HI.out.b0 0).trans rfl; have ccq0 : wn.cell? ⟨g0, 1, none⟩ = some (.int .i64 a0_1) := (blk_cell HI.out.b0 1).trans rfl; have cc1 : wn.cell? ⟨g1, 0, none⟩ = some (.int .i64 a1_0) := (blk_cell HI.out.b1 0).trans rfl; have ccq1 : wn.cell? ⟨g1, 1, none⟩ = some (.int .i64 a1_1) := (blk_cell HI.out.b1 1).trans rfl; have cc2 : wn.cell? ⟨g2, 0, none⟩ = some (.int .i64 a2_0) := (blk_cell HI.out.b2 0).trans rfl; have ccq2 : wn.cell? ⟨g2, 1, none⟩ = some (.int .i64 a2_1) := (blk_cell HI.out.b2 1).trans rfl; have cc3 : wn.cell? ⟨g3, 0, none⟩ = some (.int .i64 a3_0) := (blk_cell HI.out.b3 0).trans rfl; have ccq3 : wn.cell? ⟨g3, 1, none⟩ = some (.int .i64 a3_1) := (blk_cell HI.out.b3 1).trans rfl) | ((with_reducible refine gate_callee (f := 121) rfl ?_); refine goesL_ (some 28) rfl rfl Try.func121 (by kernel_rfl) rfl #[.agg #[.int .i64 a0_0, .int .i64 a0_1], .agg #[.int .i64 a1_0, .int .i64 a1_1], .agg #[.int .i64 a3_0, .int .i64 a3_1]] rfl (by (try simp only [List.map_toArray, List.map_cons, List.map_nil]); first | done | rfl) ?_; (with_reducible refine (spec_l02Cross.calls a0_0 a0_1 a1_0 a1_1 a3_0 a3_1 x2 _ Hx2.out).mono ?_); rintro e wn ⟨rfl, hb⟩; refine ⟨_, rfl, ?_⟩; replace HI := Ak (HI.out.below hb); clear hb; clear cc0 ccq0 cc1 ccq1 cc2 ccq2 cc3 ccq3; have cc0 : wn.cell? ⟨g0, 0, none⟩ = some (.int .i64 a0_0) := (blk_cell HI.out.b0 0).trans rfl; have ccq0 : wn.cell? ⟨g0, 1, none⟩ = some (.int .i64 a0_1) := (blk_cell HI.out.b0 1).trans rfl; have cc1 : wn.cell? ⟨g1, 0, none⟩ = some (.int .i64 a1_0) := (blk_cell HI.out.b1 0).trans rfl; have ccq1 : wn.cell? ⟨g1, 1, none⟩ = some (.int .i64 a1_1) := (blk_cell HI.out.b1 1).trans rfl; have cc2 : wn.cell? ⟨g2, 0, none⟩ = some (.int .i64 a2_0) := (blk_cell HI.out.b2 0).trans rfl; have ccq2 : wn.cell? ⟨g2, 1, none⟩ = some (.int .i64 a2_1) := (blk_cell HI.out.b2 1).trans rfl; have cc3 : wn.cell? ⟨g3, 0, none⟩ = some (.int .i64 a3_0) := (blk_cell HI.out.b3 0).trans rfl; have ccq3 : wn.cell? ⟨g3, 1, none⟩ = some (.int .i64 a3_1) := (blk_cell HI.out.b3 1).trans rfl) | ((with_reducible refine gate_callee (f := 130) rfl ?_); refine goesL_ (some 29) rfl rfl Try.func130 (by kernel_rfl) rfl #[.int .i64 x2] rfl (by (try simp only [List.map_toArray, List.map_cons, List.map_nil]); first | done | rfl) ?_; (with_reducible refine (spec_l02Sign.calls x2 s2 _ Hs2.out).mono ?_); rintro e wn ⟨rfl, hd⟩; refine ⟨_, rfl, ?_⟩; replace HI := Ak (HI.out.below hd.below); clear hd; clear cc0 ccq0 cc1 ccq1 cc2 ccq2 cc3 ccq3; have cc0 : wn.cell? ⟨g0, 0, none⟩ = some (.int .i64 a0_0) := (blk_cell HI.out.b0 0).trans rfl; have ccq0 : wn.cell? ⟨g0, 1, none⟩ = some (.int .i64 a0_1) := (blk_cell HI.out.b0 1).trans rfl; have cc1 : wn.cell? ⟨g1, 0, none⟩ = some (.int .i64 a1_0) := (blk_cell HI.out.b1 0).trans rfl; have ccq1 : wn.cell? ⟨g1, 1, none⟩ = some (.int .i64 a1_1) := (blk_cell HI.out.b1 1).trans rfl; have cc2 : wn.cell? ⟨g2, 0, none⟩ = some (.int .i64 a2_0) := (blk_cell HI.out.b2 0).trans rfl; have ccq2 : wn.cell? ⟨g2, 1, none⟩ = some (.int .i64 a2_1) := (blk_cell HI.out.b2 1).trans rfl; have cc3 : wn.cell? ⟨g3, 0, none⟩ = some (.int .i64 a3_0) := (blk_cell HI.out.b3 0).trans rfl; have ccq3 : wn.cell? ⟨g3, 1, none⟩ = some (.int .i64 a3_1) := (blk_cell HI.out.b3 1).trans rfl) | ((with_reducible refine gate_callee (f := 121) rfl ?_); refine goesL_ (some 33) rfl rfl Try.func121 (by kernel_rfl) rfl #[.agg #[.int .i64 a2_0, .int .i64 a2_1], .agg #[.int .i64 a3_0, .int .i64 a3_1], .agg #[.int .i64 a0_0, .int .i64 a0_1]] rfl (by (try simp only [List.map_toArray, List.map_cons, List.map_nil]); first | done | rfl) ?_; (with_reducible refine (spec_l02Cross.calls a2_0 a2_1 a3_0 a3_1 a0_0 a0_1 x3 _ Hx3.out).mono ?_); rintro e wn ⟨rfl, hb⟩; refine ⟨_, rfl, ?_⟩; replace HI := Ak (HI.out.below hb); clear hb; clear cc0 ccq0 cc1 ccq1 cc2 ccq2 cc3 ccq3; have cc0 : wn.cell? ⟨g0, 0, none⟩ = some (.int .i64 a0_0) := (blk_cell HI.out.b0 0).trans rfl; have ccq0 : wn.cell? ⟨g0, 1, none⟩ = some (.int .i64 a0_1) := (blk_cell HI.out.b0 1).trans rfl; have cc1 : wn.cell? ⟨g1, 0, none⟩ = some (.int .i64 a1_0) := (blk_cell HI.out.b1 0).trans rfl; have ccq1 : wn.cell? ⟨g1, 1, none⟩ = some (.int .i64 a1_1) := (blk_cell HI.out.b1 1).trans rfl; have cc2 : wn.cell? ⟨g2, 0, none⟩ = some (.int .i64 a2_0) := (blk_cell HI.out.b2 0).trans rfl; have ccq2 : wn.cell? ⟨g2, 1, none⟩ = some (.int .i64 a2_1) := (blk_cell HI.out.b2 1).trans rfl; have cc3 : wn.cell? ⟨g3, 0, none⟩ = some (.int .i64 a3_0) := (blk_cell HI.out.b3 0).trans rfl; have ccq3 : wn.cell? ⟨g3, 1, none⟩ = some (.int .i64 a3_1) := (blk_cell HI.out.b3 1).trans rfl) | ((with_reducible refine gate_callee (f := 130) rfl ?_); refine goesL_ (some 34) rfl rfl Try.func130 (by kernel_rfl) rfl #[.int .i64 x3] rfl (by (try simp only [List.map_toArray, List.map_cons, List.map_nil]); first | done | rfl) ?_; (with_reducible refine (spec_l02Sign.calls x3 s3 _ Hs3.out).mono ?_); rintro e wn ⟨rfl, hd⟩; refine ⟨_, rfl, ?_⟩; replace HI := Ak (HI.out.below hd.below); clear hd; clear cc0 ccq0 cc1 ccq1 cc2 ccq2 cc3 ccq3; have cc0 : wn.cell? ⟨g0, 0, none⟩ = some (.int .i64 a0_0) := (blk_cell HI.out.b0 0).trans rfl; have ccq0 : wn.cell? ⟨g0, 1, none⟩ = some (.int .i64 a0_1) := (blk_cell HI.out.b0 1).trans rfl; have cc1 : wn.cell? ⟨g1, 0, none⟩ = some (.int .i64 a1_0) := (blk_cell HI.out.b1 0).trans rfl; have ccq1 : wn.cell? ⟨g1, 1, none⟩ = some (.int .i64 a1_1) := (blk_cell HI.out.b1 1).trans rfl; have cc2 : wn.cell? ⟨g2, 0, none⟩ = some (.int .i64 a2_0) := (blk_cell HI.out.b2 0).trans rfl; have ccq2 : wn.cell? ⟨g2, 1, none⟩ = some (.int .i64 a2_1) := (blk_cell HI.out.b2 1).trans rfl; have cc3 : wn.cell? ⟨g3, 0, none⟩ = some (.int .i64 a3_0) := (blk_cell HI.out.b3 0).trans rfl; have ccq3 : wn.cell? ⟨g3, 1, none⟩ = some (.int .i64 a3_1) := (blk_cell HI.out.b3 1).trans rfl) | ((with_reducible refine gate_callee (f := 121) rfl ?_); refine goesL_ (some 38) rfl rfl Try.func121 (by kernel_rfl) rfl #[.agg #[.int .i64 a2_0, .int .i64 a2_1], .agg #[.int .i64 a3_0, .int .i64 a3_1], .agg #[.int .i64 a1_0, .int .i64 a1_1]] rfl (by (try simp only [List.map_toArray, List.map_cons, List.map_nil]); first | done | rfl) ?_; (with_reducible refine (spec_l02Cross.calls a2_0 a2_1 a3_0 a3_1 a1_0 a1_1 x4 _ Hx4.out).mono ?_); rintro e wn ⟨rfl, hb⟩; refine ⟨_, rfl, ?_⟩; replace HI := Ak (HI.out.below hb); clear hb; clear cc0 ccq0 cc1 ccq1 cc2 ccq2 cc3 ccq3; have cc0 : wn.cell? ⟨g0, 0, none⟩ = some (.int .i64 a0_0) := (blk_cell HI.out.b0 0).trans rfl; have ccq0 : wn.cell? ⟨g0, 1, none⟩ = some (.int .i64 a0_1) := (blk_cell HI.out.b0 1).trans rfl; have cc1 : wn.cell? ⟨g1, 0, none⟩ = some (.int .i64 a1_0) := (blk_cell HI.out.b1 0).trans rfl; have ccq1 : wn.cell? ⟨g1, 1, none⟩ = some (.int .i64 a1_1) := (blk_cell HI.out.b1 1).trans rfl; have cc2 : wn.cell? ⟨g2, 0, none⟩ = some (.int .i64 a2_0) := (blk_cell HI.out.b2 0).trans rfl; have ccq2 : wn.cell? ⟨g2, 1, none⟩ = some (.int .i64 a2_1) := (blk_cell HI.out.b2 1).trans rfl; have cc3 : wn.cell? ⟨g3, 0, none⟩ = some (.int .i64 a3_0) := (blk_cell HI.out.b3 0).trans rfl; have ccq3 : wn.cell? ⟨g3, 1, none⟩ = some (.int .i64 a3_1) := (blk_cell HI.out.b3 1).trans rfl) | ((with_reducible refine gate_callee (f := 130) rfl ?_); refine goesL_ (some 39) rfl rfl Try.func130 (by kernel_rfl) rfl #[.int .i64 x4] rfl (by (try simp only [List.map_toArray, List.map_cons, List.map_nil]); first | done | rfl) ?_; (with_reducible refine (spec_l02Sign.calls x4 s4 _ Hs4.out).mono ?_); rintro e wn ⟨rfl, hd⟩; refine ⟨_, rfl, ?_⟩; replace HI := Ak (HI.out.below hd.below); clear hd; clear cc0 ccq0 cc1 ccq1 cc2 ccq2 cc3 ccq3; have cc0 : wn.cell? ⟨g0, 0, none⟩ = some (.int .i64 a0_0) := (blk_cell HI.out.b0 0).trans rfl; have ccq0 : wn.cell? ⟨g0, 1, none⟩ = some (.int .i64 a0_1) := (blk_cell HI.out.b0 1).trans rfl; have cc1 : wn.cell? ⟨g1, 0, none⟩ = some (.int .i64 a1_0) := (blk_cell HI.out.b1 0).trans rfl; have ccq1 : wn.cell? ⟨g1, 1, none⟩ = some (.int .i64 a1_1) := (blk_cell HI.out.b1 1).trans rfl; have cc2 : wn.cell? ⟨g2, 0, none⟩ = some (.int .i64 a2_0) := (blk_cell HI.out.b2 0).trans rfl; have ccq2 : wn.cell? ⟨g2, 1, none⟩ = some (.int .i64 a2_1) := (blk_cell HI.out.b2 1).trans rfl; have cc3 : wn.cell? ⟨g3, 0, none⟩ = some (.int .i64 a3_0) := (blk_cell HI.out.b3 0).trans rfl; have ccq3 : wn.cell? ⟨g3, 1, none⟩ = some (.int .i64 a3_1) := (blk_cell HI.out.b3 1).trans rfl))
  go_cut [49] (fun s49 wc => s49 = .bool false ∧ Aside0 (spec_l02Meet.Inv w wc g0 g1 g2 g3 a0_0 a0_1 a1_0 a1_1 a2_0 a2_1 a3_0 a3_1))
  case first =>
   by_cases k1 : wrap64 (s1 * s2) < 0
   ·have k1b : decide (wrap64 (s1 * s2) < 0) = true := decide_eq_true k1
    have k2b : decide (wrap64 (s3 * s4) < 0) = false := by rw [k1b, Bool.true_and] at k0'; exact k0'
    clear k0' k1
    go_wp2
    go_meet
    exact ⟨rfl, HI⟩
   ·have k1b : decide (wrap64 (s1 * s2) < 0) = false := decide_eq_false k1
    clear k0' k1
    go_wp2
    go_meet
    exact ⟨rfl, HI⟩
  case rest =>
   clear HI k0'
   obtain ⟨rfl, HI⟩ := hcut
   have ck0 : wc.cell? ⟨g0, 0, none⟩ = some (.int .i64 a0_0) := (blk_cell HI.out.b0 0).trans rfl; have ckq0 : wc.cell? ⟨g0, 1, none⟩ = some (.int .i64 a0_1) := (blk_cell HI.out.b0 1).trans rfl; have ck1 : wc.cell? ⟨g1, 0, none⟩ = some (.int .i64 a1_0) := (blk_cell HI.out.b1 0).trans rfl; have ckq1 : wc.cell? ⟨g1, 1, none⟩ = some (.int .i64 a1_1) := (blk_cell HI.out.b1 1).trans rfl; have ck2 : wc.cell? ⟨g2, 0, none⟩ = some (.int .i64 a2_0) := (blk_cell HI.out.b2 0).trans rfl; have ckq2 : wc.cell? ⟨g2, 1, none⟩ = some (.int .i64 a2_1) := (blk_cell HI.out.b2 1).trans rfl; have ck3 : wc.cell? ⟨g3, 0, none⟩ = some (.int .i64 a3_0) := (blk_cell HI.out.b3 0).trans rfl; have ckq3 : wc.cell? ⟨g3, 1, none⟩ = some (.int .i64 a3_1) := (blk_cell HI.out.b3 1).trans rfl
   go_wp2_with (first | ((with_reducible refine gate_dst (N := 50) rfl ?_); refine spec_l02Meet.lit_event ?hg (N := 50) ?hd (c := #[]) (t := 27) (n := 0) ?hr ?_; (case hd | hg => rfl); (case hr => first | (go_simp; done) | (go_simp; rfl)); intro gl0 hgl w4 hbox hb; have BL := Ak hbox; have GL : w.heap.size ≤ gl0 := (by rw [hgl]; exact below_size HI.out.bel); have NL := Ak (show gl0 ∉ [g0, g1, g2, g3] from (by intro hm; simp only [List.mem_cons, List.not_mem_nil, or_false] at hm; have q0 := blk_lt HI.out.b0; have q1 := blk_lt HI.out.b1; have q2 := blk_lt HI.out.b2; have q3 := blk_lt HI.out.b3; omega)); replace HI := Ak (HI.out.below hb); clear hbox hb hgl; clear ck0 ckq0 ck1 ckq1 ck2 ckq2 ck3 ckq3; have ck0 : w4.cell? ⟨g0, 0, none⟩ = some (.int .i64 a0_0) := (blk_cell HI.out.b0 0).trans rfl; have ckq0 : w4.cell? ⟨g0, 1, none⟩ = some (.int .i64 a0_1) := (blk_cell HI.out.b0 1).trans rfl; have ck1 : w4.cell? ⟨g1, 0, none⟩ = some (.int .i64 a1_0) := (blk_cell HI.out.b1 0).trans rfl; have ckq1 : w4.cell? ⟨g1, 1, none⟩ = some (.int .i64 a1_1) := (blk_cell HI.out.b1 1).trans rfl; have ck2 : w4.cell? ⟨g2, 0, none⟩ = some (.int .i64 a2_0) := (blk_cell HI.out.b2 0).trans rfl; have ckq2 : w4.cell? ⟨g2, 1, none⟩ = some (.int .i64 a2_1) := (blk_cell HI.out.b2 1).trans rfl; have ck3 : w4.cell? ⟨g3, 0, none⟩ = some (.int .i64 a3_0) := (blk_cell HI.out.b3 0).trans rfl; have ckq3 : w4.cell? ⟨g3, 1, none⟩ = some (.int .i64 a3_1) := (blk_cell HI.out.b3 1).trans rfl) | ((with_reducible refine gate_dst (N := 53) rfl ?_); refine spec_l02Meet.lit_event ?hg (N := 53) ?hd (c := #[.int .i64 a0_0, .int .i64 a0_1, .int .i64 a1_0, .int .i64 a1_1]) (t := 27) (n := 2) ?hr ?_; (case hd | hg => rfl); (case hr => first | (go_simp; done) | (go_simp; rfl)); intro gl hgl w5 hbox hb; have BT1 := Ak hbox; have NG := Ak (Nat.ne_of_lt (Nat.lt_of_lt_of_le (blk_lt BL.out) (Nat.le_of_eq hgl.symm))); have HR1 := Ak (show Kd.R k27 27 w5 w.heap.size (spec_l02Meet.okL w.heap.size [gl, g0, g1, g2, g3]) (.slice (some ⟨gl0, 0, none⟩) 0 0) [] from spec_l02Meet.none_ (blk_below BL.out hb) GL ⟨GL, (by rw [List.mem_cons, not_or]; exact ⟨NG.out, NL.out⟩)⟩); have HL1 := Ak (show ∀ k, k ∈ [gl, g0, g1, g2, g3] → k < w5.heap.size from fun k hk => (List.mem_cons.1 hk).elim (fun e => e ▸ blk_lt hbox) (fun h => Nat.lt_of_lt_of_le (by simp only [List.mem_cons, List.not_mem_nil, or_false] at h; rcases h with rfl | rfl | rfl | rfl; exact blk_lt HI.out.b0; exact blk_lt HI.out.b1; exact blk_lt HI.out.b2; exact blk_lt HI.out.b3) (below_size hb))); replace HI := Ak (HI.out.below hb); clear BL GL NL NG; clear hbox hb hgl))
   clear ck0 ckq0 ck1 ckq1 ck2 ckq2 ck3 ckq3
   go_loopg [13, 55] 2 (fun gk vv vx wr => ∃ x_1 : Int, vx = .int .i64 x_1 ∧ Aside0 (0 ≤ x_1 ∧ x_1 + gk = 2) ∧ Aside0 (spec_l02Meet.Inv w wr g0 g1 g2 g3 a0_0 a0_1 a1_0 a1_1 a2_0 a2_1 a3_0 a3_1) ∧ Aside0 (Kd.R k27 27 wr w.heap.size (spec_l02Meet.okL w.heap.size [gl, g0, g1, g2, g3]) vv (spec_l02Meet.ends a2_0 a2_1 a3_0 a3_1 a0_0 a0_1 a1_0 a1_1 [] x_1)) ∧ Aside0 ((spec_l02Meet.ends a2_0 a2_1 a3_0 a3_1 a0_0 a0_1 a1_0 a1_1 [] x_1).length ≤ [].length + x_1) ∧ Aside0 (wr.heap[gl]? = some (.cells #[.int .i64 a0_0, .int .i64 a0_1, .int .i64 a1_0, .int .i64 a1_1] 27 (0, 0))) ∧ Aside0 (∀ k, k ∈ [gl, g0, g1, g2, g3] → k < wr.heap.size))
   case atStart => exact ⟨0, rfl, ⟨by omega⟩, HI, ⟨by rw [spec_l02Meet.ends_0]; exact HR1.out⟩, ⟨by rw [spec_l02Meet.ends_0]; simp⟩, BT1, HL1⟩
   case round =>
    obtain ⟨x_1, rfl, HX, HI, HR, HLn, BT, HL⟩ := hrel
    cases gk with
    | succ k1 =>
     have hp : 0 ≤ x_1 := by have := HX.out; omega
     have hq : x_1 < ((2 : Nat) : Int) := by have := HX.out; omega
     obtain ⟨ad, ead, hx0, hx1⟩ := at_T27 (spec_l02Meet.two BT.out) x_1 hp hq
     have hq2 : decide (x_1 < 2) = true := decide_eq_true (by have := HX.out; omega)
     have hq3 : (x_1 < 2) = True := eq_true (by have := HX.out; omega)
     have HES := Ak (spec_l02Meet.ends_succ a2_0 a2_1 a3_0 a3_1 a0_0 a0_1 a1_0 a1_1 [] x_1 (by have := HX.out; omega) (by have := HX.out; omega))
     have HWX := Ak (show wrap64 (x_1 + 1) = x_1 + 1 from spec_l02Meet.w64 (by have := HX.out; omega) (by have := HX.out; omega))
     cases ead
     simp only [Addr.add_lit, Nat.zero_add] at hx0 hx1
     replace hp := eq_true hp
     replace hq := eq_true hq
     generalize HPX : (rd_T27 [(⟨a0_0, a0_1⟩ : S27), ⟨a1_0, a1_1⟩] x_1) = px at hx0 hx1 HES
     replace HPX := Ak HPX
     by_cases hon : spec_l02Meet.onW a2_0 a2_1 a3_0 a3_1 px.f0 px.f1 = true
     ·have HON := Ak (spec_l02Meet.on_some a2_0 a2_1 a3_0 a3_1 px.f0 px.f1)
      rw [hon] at HON HES
      clear hon
      go_wp2_with (first | ((with_reducible refine gate_dst (N := 15) rfl ?_); refine box_event ?hg (N := 15) ?hd (cs := #[.int .i64 0, .int .i64 0]) (t := 27) ?hr ?_; (case hd | hg => rfl); (case hr => first | (go_simp; done) | (go_simp; rfl)); intro gp hgp w7 hbox hb; have GP : wr.heap.size ≤ gp := Nat.le_of_eq hgp.symm; have BP := Ak hbox; have HI7 := Ak (HI.out.below hb); have HB7 := Ak hb; have n1 : gp ≠ g2 := Nat.ne_of_gt (Nat.lt_of_lt_of_le (blk_lt HI.out.b2) GP); have n2 : gp ≠ g3 := Nat.ne_of_gt (Nat.lt_of_lt_of_le (blk_lt HI.out.b3) GP); have n3 := n1.symm; have n4 := n2.symm; clear hbox hb hgp; have e1 : w7.cell? ⟨gp, 0, none⟩ = some (.int .i64 0) := (blk_cell BP.out 0).trans rfl; have e2 : w7.cell? ⟨gp, 1, none⟩ = some (.int .i64 0) := (blk_cell BP.out 1).trans rfl; have e3 := blk_frozen BP.out 0; have e4 := blk_frozen BP.out 1; have e_2 : w7.cell? ⟨g2, 0, none⟩ = some (.int .i64 a2_0) := (blk_cell HI7.out.b2 0).trans rfl; have e_q2 : w7.cell? ⟨g2, 1, none⟩ = some (.int .i64 a2_1) := (blk_cell HI7.out.b2 1).trans rfl; have e_3 : w7.cell? ⟨g3, 0, none⟩ = some (.int .i64 a3_0) := (blk_cell HI7.out.b3 0).trans rfl; have e_q3 : w7.cell? ⟨g3, 1, none⟩ = some (.int .i64 a3_1) := (blk_cell HI7.out.b3 1).trans rfl) | ((with_reducible refine gate_callee (f := 131) rfl ?_); refine goesL_ (some 62) rfl rfl Try.func131 (by kernel_rfl) rfl #[.agg #[.int .i64 a2_0, .int .i64 a2_1], .agg #[.int .i64 a3_0, .int .i64 a3_1], .agg #[.int .i64 px.f0, .int .i64 px.f1]] rfl (by (try simp only [List.map_toArray, List.map_cons, List.map_nil]); first | done | rfl | (simp only [List.length_drop, List.length_take]; rfl)) ?_; (with_reducible refine (spec_l02On.calls a2_0 a2_1 a3_0 a3_1 px.f0 px.f1 true _ HON.out).mono ?_); rintro e w8 ⟨rfl, hb⟩; refine ⟨_, rfl, ?_⟩; have BP8 := Ak (blk_below (blk_put (cs' := #[.int .i64 px.f0, .int .i64 px.f1]) (blk_put (cs' := #[.int .i64 px.f0, .int .i64 0]) BP.out 0 _ rfl) 1 _ rfl) hb); have HB8 := Ak (below_step (below_set (below_set HB7.out GP) GP) hb); clear hb; have f1 : w8.cell? ⟨gp, 0, none⟩ = some (.int .i64 px.f0) := (blk_cell BP8.out 0).trans rfl; have f2 : w8.cell? ⟨gp, 1, none⟩ = some (.int .i64 px.f1) := (blk_cell BP8.out 1).trans rfl) | ((with_reducible refine gate_builtin (b := .append) (xs := #[.tmp 63, .tmp 65]) rfl ?_); at_builtin; refine Kd.R_append k27 (w0 := w) w.heap.size rfl (.tmp 63) (.tmp 65) 23 27 (.agg #[(.int .i64 0), (.int .i64 0)]) 16 rfl Try.underlying23 info27 rfl (by decide) (by omega) _ (spec_l02Meet.ends a2_0 a2_1 a3_0 a3_1 a0_0 a0_1 a1_0 a1_1 [] x_1) (⟨px.f0, px.f1⟩ : S27) [.int .i64 px.f0, .int .i64 px.f1] (spec_l02Meet.okL w.heap.size [gl, g0, g1, g2, g3]) (fun _ => False) rfl rfl ?aP (fun _ hk => hk.elim) ?aF ?aO ?aB ?aS ?aL ?_; (case aP => exact k27_mkM _ _ _ (⟨px.f0, px.f1⟩ : S27)); (case aF => exact fun k hk => ⟨Nat.le_trans (below_size (HI.out.below HB8.out).bel) hk, fun hm => Nat.lt_irrefl _ (Nat.lt_of_lt_of_le (HL.out k hm) (Nat.le_trans (below_size HB8.out) hk))⟩); (case aO => exact Kd.R_below HR.out HB8.out); (case aB => exact (HI.out.below HB8.out).bel); (case aS => exact below_size (HI.out.below HB8.out).bel); (case aL => have h1 := HLn.out; have h2 := HX.out; have h3 : (([] : List S27).length : Int) = 0 := rfl; omega); intro v9 w9 ho hb2 hgr hat; have HR9 := Ak ho; have HG9 := Ak hgr; have HBE9 := Ak hb2; clear ho hb2 hgr hat))
      go_roundg k1
      case measure => exact Nat.lt_succ_self _
      case rel =>
       have HKK := fun (k : Nat) (hk : k ∈ [gl, g0, g1, g2, g3]) e => (HR.out.1 k e).2 hk
       refine ⟨wrap64 (x_1 + 1), rfl, ⟨by rw [HWX.out]; have := HX.out; omega⟩, ⟨(HI.out.below HB8.out).grown HG9.out HBE9.out (fun k hk => ⟨fun e => HKK k (by rw [e]; simp) hk, fun e => HKK k (by rw [e]; simp) hk, fun e => HKK k (by rw [e]; simp) hk, fun e => HKK k (by rw [e]; simp) hk⟩)⟩, ⟨by rw [HWX.out, HES.out]; exact HR9.out⟩, ⟨?_⟩, ⟨?_⟩, ⟨fun k hk => Nat.lt_of_lt_of_le (HL.out k hk) (Nat.le_trans (below_size HB8.out) HG9.out.size)⟩⟩
       ·rw [HWX.out, HES.out]; have h1 := HLn.out; simp only [spec_l02Meet.step, if_true, List.length_append, List.length_singleton]; omega
       ·exact blk_grown (blk_below BT.out HB8.out) HG9.out (fun e => HKK _ (by simp) e.symm)
     ·have HON := Ak (spec_l02Meet.on_some a2_0 a2_1 a3_0 a3_1 px.f0 px.f1)
      replace hon := Bool.eq_false_iff.mpr hon
      rw [hon] at HON HES
      clear hon
      go_wp2_with (first | ((with_reducible refine gate_dst (N := 15) rfl ?_); refine box_event ?hg (N := 15) ?hd (cs := #[.int .i64 0, .int .i64 0]) (t := 27) ?hr ?_; (case hd | hg => rfl); (case hr => first | (go_simp; done) | (go_simp; rfl)); intro gp hgp w7 hbox hb; have GP : wr.heap.size ≤ gp := Nat.le_of_eq hgp.symm; have BP := Ak hbox; have HI7 := Ak (HI.out.below hb); have HB7 := Ak hb; have n1 : gp ≠ g2 := Nat.ne_of_gt (Nat.lt_of_lt_of_le (blk_lt HI.out.b2) GP); have n2 : gp ≠ g3 := Nat.ne_of_gt (Nat.lt_of_lt_of_le (blk_lt HI.out.b3) GP); have n3 := n1.symm; have n4 := n2.symm; clear hbox hb hgp; have e1 : w7.cell? ⟨gp, 0, none⟩ = some (.int .i64 0) := (blk_cell BP.out 0).trans rfl; have e2 : w7.cell? ⟨gp, 1, none⟩ = some (.int .i64 0) := (blk_cell BP.out 1).trans rfl; have e3 := blk_frozen BP.out 0; have e4 := blk_frozen BP.out 1; have e_2 : w7.cell? ⟨g2, 0, none⟩ = some (.int .i64 a2_0) := (blk_cell HI7.out.b2 0).trans rfl; have e_q2 : w7.cell? ⟨g2, 1, none⟩ = some (.int .i64 a2_1) := (blk_cell HI7.out.b2 1).trans rfl; have e_3 : w7.cell? ⟨g3, 0, none⟩ = some (.int .i64 a3_0) := (blk_cell HI7.out.b3 0).trans rfl; have e_q3 : w7.cell? ⟨g3, 1, none⟩ = some (.int .i64 a3_1) := (blk_cell HI7.out.b3 1).trans rfl) | ((with_reducible refine gate_callee (f := 131) rfl ?_); refine goesL_ (some 62) rfl rfl Try.func131 (by kernel_rfl) rfl #[.agg #[.int .i64 a2_0, .int .i64 a2_1], .agg #[.int .i64 a3_0, .int .i64 a3_1], .agg #[.int .i64 px.f0, .int .i64 px.f1]] rfl (by (try simp only [List.map_toArray, List.map_cons, List.map_nil]); first | done | rfl | (simp only [List.length_drop, List.length_take]; rfl)) ?_; (with_reducible refine (spec_l02On.calls a2_0 a2_1 a3_0 a3_1 px.f0 px.f1 false _ HON.out).mono ?_); rintro e w8 ⟨rfl, hb⟩; refine ⟨_, rfl, ?_⟩; have BP8 := Ak (blk_below (blk_put (cs' := #[.int .i64 px.f0, .int .i64 px.f1]) (blk_put (cs' := #[.int .i64 px.f0, .int .i64 0]) BP.out 0 _ rfl) 1 _ rfl) hb); have HB8 := Ak (below_step (below_set (below_set HB7.out GP) GP) hb); clear hb; have f1 : w8.cell? ⟨gp, 0, none⟩ = some (.int .i64 px.f0) := (blk_cell BP8.out 0).trans rfl; have f2 : w8.cell? ⟨gp, 1, none⟩ = some (.int .i64 px.f1) := (blk_cell BP8.out 1).trans rfl))
      go_roundg k1
      case measure => exact Nat.lt_succ_self _
      case rel =>
       refine ⟨wrap64 (x_1 + 1), rfl, ⟨by rw [HWX.out]; have := HX.out; omega⟩, ⟨HI.out.below HB8.out⟩, ⟨by rw [HWX.out, HES.out]; exact Kd.R_below HR.out HB8.out⟩, ⟨?_⟩, ⟨blk_below BT.out HB8.out⟩, ⟨fun k hk => Nat.lt_of_lt_of_le (HL.out k hk) (below_size HB8.out)⟩⟩
       rw [HWX.out, HES.out]; have h1 := HLn.out; simp only [spec_l02Meet.step, Bool.false_eq_true, if_false]; omega
    | zero =>
     have hx2 : x_1 = 2 := by have := HX.out; omega
     subst hx2
     have hq2 : decide ((2 : Int) < 2) = false := rfl
     have ck2 : wr.cell? ⟨g2, 0, none⟩ = some (.int .i64 a2_0) := (blk_cell HI.out.b2 0).trans rfl; have ckq2 : wr.cell? ⟨g2, 1, none⟩ = some (.int .i64 a2_1) := (blk_cell HI.out.b2 1).trans rfl; have ck3 : wr.cell? ⟨g3, 0, none⟩ = some (.int .i64 a3_0) := (blk_cell HI.out.b3 0).trans rfl; have ckq3 : wr.cell? ⟨g3, 1, none⟩ = some (.int .i64 a3_1) := (blk_cell HI.out.b3 1).trans rfl
     go_wp2_with (first | ((with_reducible refine gate_dst (N := 70) rfl ?_); refine spec_l02Meet.lit_event ?hg (N := 70) ?hd (c := #[.int .i64 a2_0, .int .i64 a2_1, .int .i64 a3_0, .int .i64 a3_1]) (t := 27) (n := 2) ?hr ?_; (case hd | hg => rfl); (case hr => first | (go_simp; done) | (go_simp; rfl)); intro gl2 hgl w10 hbox hb; have BT2 := Ak hbox; have HR2 := Ak (Kd.R_below (spec_l02Meet.fresh (n := gl2) HR.out (Nat.le_of_eq hgl.symm)) hb); have HL2 := Ak (show ∀ k, k ∈ [gl2, gl, g0, g1, g2, g3] → k < w10.heap.size from fun k hk => (List.mem_cons.1 hk).elim (fun e => e ▸ blk_lt hbox) (fun h => Nat.lt_of_lt_of_le (HL.out k h) (below_size hb))); replace HI := Ak (HI.out.below hb); clear hbox hb hgl))
     have HP2 := Ak (show (spec_l02Meet.ends a2_0 a2_1 a3_0 a3_1 a0_0 a0_1 a1_0 a1_1 [] 2).length ≤ 2 from by have := HLn.out; have h3 : (([] : List S27).length : Int) = 0 := rfl; omega)
     clear HL HLn BT HX HR ck2 ckq2 ck3 ckq3
     go_loopg [13, 72] 2 (fun gk vv vx wr => ∃ x_2 : Int, vx = .int .i64 x_2 ∧ Aside0 (0 ≤ x_2 ∧ x_2 + gk = 2) ∧ Aside0 (spec_l02Meet.Inv w wr g0 g1 g2 g3 a0_0 a0_1 a1_0 a1_1 a2_0 a2_1 a3_0 a3_1) ∧ Aside0 (Kd.R k27 27 wr w.heap.size (spec_l02Meet.okL w.heap.size [gl2, gl, g0, g1, g2, g3]) vv (spec_l02Meet.ends a0_0 a0_1 a1_0 a1_1 a2_0 a2_1 a3_0 a3_1 (spec_l02Meet.ends a2_0 a2_1 a3_0 a3_1 a0_0 a0_1 a1_0 a1_1 [] 2) x_2)) ∧ Aside0 ((spec_l02Meet.ends a0_0 a0_1 a1_0 a1_1 a2_0 a2_1 a3_0 a3_1 (spec_l02Meet.ends a2_0 a2_1 a3_0 a3_1 a0_0 a0_1 a1_0 a1_1 [] 2) x_2).length ≤ (spec_l02Meet.ends a2_0 a2_1 a3_0 a3_1 a0_0 a0_1 a1_0 a1_1 [] 2).length + x_2) ∧ Aside0 (wr.heap[gl2]? = some (.cells #[.int .i64 a2_0, .int .i64 a2_1, .int .i64 a3_0, .int .i64 a3_1] 27 (0, 0))) ∧ Aside0 (∀ k, k ∈ [gl2, gl, g0, g1, g2, g3] → k < wr.heap.size))
     case atStart => exact ⟨0, rfl, ⟨by omega⟩, HI, ⟨by rw [spec_l02Meet.ends_0]; exact HR2.out⟩, ⟨by rw [spec_l02Meet.ends_0]; simp⟩, BT2, HL2⟩
     case round =>
      obtain ⟨x_2, rfl, HX, HI, HR, HLn, BT, HL⟩ := hrel
      cases gk with
      | succ k1 =>
       have hp : 0 ≤ x_2 := by have := HX.out; omega
       have hq : x_2 < ((2 : Nat) : Int) := by have := HX.out; omega
       obtain ⟨ad, ead, hx0, hx1⟩ := at_T27 (spec_l02Meet.two BT.out) x_2 hp hq
       have hq2 : decide (x_2 < 2) = true := decide_eq_true (by have := HX.out; omega)
       have hq3 : (x_2 < 2) = True := eq_true (by have := HX.out; omega)
       have HES := Ak (spec_l02Meet.ends_succ a0_0 a0_1 a1_0 a1_1 a2_0 a2_1 a3_0 a3_1 (spec_l02Meet.ends a2_0 a2_1 a3_0 a3_1 a0_0 a0_1 a1_0 a1_1 [] 2) x_2 (by have := HX.out; omega) (by have := HX.out; omega))
       have HWX := Ak (show wrap64 (x_2 + 1) = x_2 + 1 from spec_l02Meet.w64 (by have := HX.out; omega) (by have := HX.out; omega))
       cases ead
       simp only [Addr.add_lit, Nat.zero_add] at hx0 hx1
       replace hp := eq_true hp
       replace hq := eq_true hq
       generalize HPX : (rd_T27 [(⟨a2_0, a2_1⟩ : S27), ⟨a3_0, a3_1⟩] x_2) = px at hx0 hx1 HES
       replace HPX := Ak HPX
       by_cases hon : spec_l02Meet.onW a0_0 a0_1 a1_0 a1_1 px.f0 px.f1 = true
       ·have HON := Ak (spec_l02Meet.on_some a0_0 a0_1 a1_0 a1_1 px.f0 px.f1)
        rw [hon] at HON HES
        clear hon
        go_wp2_with (first | ((with_reducible refine gate_dst (N := 17) rfl ?_); refine box_event ?hg (N := 17) ?hd (cs := #[.int .i64 0, .int .i64 0]) (t := 27) ?hr ?_; (case hd | hg => rfl); (case hr => first | (go_simp; done) | (go_simp; rfl)); intro gp hgp w7 hbox hb; have GP : wr.heap.size ≤ gp := Nat.le_of_eq hgp.symm; have BP := Ak hbox; have HI7 := Ak (HI.out.below hb); have HB7 := Ak hb; have n1 : gp ≠ g0 := Nat.ne_of_gt (Nat.lt_of_lt_of_le (blk_lt HI.out.b0) GP); have n2 : gp ≠ g1 := Nat.ne_of_gt (Nat.lt_of_lt_of_le (blk_lt HI.out.b1) GP); have n3 := n1.symm; have n4 := n2.symm; clear hbox hb hgp; have e1 : w7.cell? ⟨gp, 0, none⟩ = some (.int .i64 0) := (blk_cell BP.out 0).trans rfl; have e2 : w7.cell? ⟨gp, 1, none⟩ = some (.int .i64 0) := (blk_cell BP.out 1).trans rfl; have e3 := blk_frozen BP.out 0; have e4 := blk_frozen BP.out 1; have e_0 : w7.cell? ⟨g0, 0, none⟩ = some (.int .i64 a0_0) := (blk_cell HI7.out.b0 0).trans rfl; have e_q0 : w7.cell? ⟨g0, 1, none⟩ = some (.int .i64 a0_1) := (blk_cell HI7.out.b0 1).trans rfl; have e_1 : w7.cell? ⟨g1, 0, none⟩ = some (.int .i64 a1_0) := (blk_cell HI7.out.b1 0).trans rfl; have e_q1 : w7.cell? ⟨g1, 1, none⟩ = some (.int .i64 a1_1) := (blk_cell HI7.out.b1 1).trans rfl) | ((with_reducible refine gate_callee (f := 131) rfl ?_); refine goesL_ (some 79) rfl rfl Try.func131 (by kernel_rfl) rfl #[.agg #[.int .i64 a0_0, .int .i64 a0_1], .agg #[.int .i64 a1_0, .int .i64 a1_1], .agg #[.int .i64 px.f0, .int .i64 px.f1]] rfl (by (try simp only [List.map_toArray, List.map_cons, List.map_nil]); first | done | rfl | (simp only [List.length_drop, List.length_take]; rfl)) ?_; (with_reducible refine (spec_l02On.calls a0_0 a0_1 a1_0 a1_1 px.f0 px.f1 true _ HON.out).mono ?_); rintro e w8 ⟨rfl, hb⟩; refine ⟨_, rfl, ?_⟩; have BP8 := Ak (blk_below (blk_put (cs' := #[.int .i64 px.f0, .int .i64 px.f1]) (blk_put (cs' := #[.int .i64 px.f0, .int .i64 0]) BP.out 0 _ rfl) 1 _ rfl) hb); have HB8 := Ak (below_step (below_set (below_set HB7.out GP) GP) hb); clear hb; have f1 : w8.cell? ⟨gp, 0, none⟩ = some (.int .i64 px.f0) := (blk_cell BP8.out 0).trans rfl; have f2 : w8.cell? ⟨gp, 1, none⟩ = some (.int .i64 px.f1) := (blk_cell BP8.out 1).trans rfl) | ((with_reducible refine gate_builtin (b := .append) (xs := #[.tmp 80, .tmp 82]) rfl ?_); at_builtin; refine Kd.R_append k27 (w0 := w) w.heap.size rfl (.tmp 80) (.tmp 82) 23 27 (.agg #[(.int .i64 0), (.int .i64 0)]) 16 rfl Try.underlying23 info27 rfl (by decide) (by omega) _ (spec_l02Meet.ends a0_0 a0_1 a1_0 a1_1 a2_0 a2_1 a3_0 a3_1 (spec_l02Meet.ends a2_0 a2_1 a3_0 a3_1 a0_0 a0_1 a1_0 a1_1 [] 2) x_2) (⟨px.f0, px.f1⟩ : S27) [.int .i64 px.f0, .int .i64 px.f1] (spec_l02Meet.okL w.heap.size [gl2, gl, g0, g1, g2, g3]) (fun _ => False) rfl rfl ?aP (fun _ hk => hk.elim) ?aF ?aO ?aB ?aS ?aL ?_; (case aP => exact k27_mkM _ _ _ (⟨px.f0, px.f1⟩ : S27)); (case aF => exact fun k hk => ⟨Nat.le_trans (below_size (HI.out.below HB8.out).bel) hk, fun hm => Nat.lt_irrefl _ (Nat.lt_of_lt_of_le (HL.out k hm) (Nat.le_trans (below_size HB8.out) hk))⟩); (case aO => exact Kd.R_below HR.out HB8.out); (case aB => exact (HI.out.below HB8.out).bel); (case aS => exact below_size (HI.out.below HB8.out).bel); (case aL => have h1 := HLn.out; have h2 := HX.out; have h3 := HP2.out; omega); intro v9 w9 ho hb2 hgr hat; have HR9 := Ak ho; have HG9 := Ak hgr; have HBE9 := Ak hb2; clear ho hb2 hgr hat))
        go_roundg k1
        case measure => exact Nat.lt_succ_self _
        case rel =>
         have HKK := fun (k : Nat) (hk : k ∈ [gl2, gl, g0, g1, g2, g3]) e => (HR.out.1 k e).2 hk
         refine ⟨wrap64 (x_2 + 1), rfl, ⟨by rw [HWX.out]; have := HX.out; omega⟩, ⟨(HI.out.below HB8.out).grown HG9.out HBE9.out (fun k hk => ⟨fun e => HKK k (by rw [e]; simp) hk, fun e => HKK k (by rw [e]; simp) hk, fun e => HKK k (by rw [e]; simp) hk, fun e => HKK k (by rw [e]; simp) hk⟩)⟩, ⟨by rw [HWX.out, HES.out]; exact HR9.out⟩, ⟨?_⟩, ⟨?_⟩, ⟨fun k hk => Nat.lt_of_lt_of_le (HL.out k hk) (Nat.le_trans (below_size HB8.out) HG9.out.size)⟩⟩
         ·rw [HWX.out, HES.out]; have h1 := HLn.out; simp only [spec_l02Meet.step, if_true, List.length_append, List.length_singleton]; omega
         ·exact blk_grown (blk_below BT.out HB8.out) HG9.out (fun e => HKK _ (by simp) e.symm)
       ·have HON := Ak (spec_l02Meet.on_some a0_0 a0_1 a1_0 a1_1 px.f0 px.f1)
        replace hon := Bool.eq_false_iff.mpr hon
        rw [hon] at HON HES
        clear hon
        go_wp2_with (first | ((with_reducible refine gate_dst (N := 17) rfl ?_); refine box_event ?hg (N := 17) ?hd (cs := #[.int .i64 0, .int .i64 0]) (t := 27) ?hr ?_; (case hd | hg => rfl); (case hr => first | (go_simp; done) | (go_simp; rfl)); intro gp hgp w7 hbox hb; have GP : wr.heap.size ≤ gp := Nat.le_of_eq hgp.symm; have BP := Ak hbox; have HI7 := Ak (HI.out.below hb); have HB7 := Ak hb; have n1 : gp ≠ g0 := Nat.ne_of_gt (Nat.lt_of_lt_of_le (blk_lt HI.out.b0) GP); have n2 : gp ≠ g1 := Nat.ne_of_gt (Nat.lt_of_lt_of_le (blk_lt HI.out.b1) GP); have n3 := n1.symm; have n4 := n2.symm; clear hbox hb hgp; have e1 : w7.cell? ⟨gp, 0, none⟩ = some (.int .i64 0) := (blk_cell BP.out 0).trans rfl; have e2 : w7.cell? ⟨gp, 1, none⟩ = some (.int .i64 0) := (blk_cell BP.out 1).trans rfl; have e3 := blk_frozen BP.out 0; have e4 := blk_frozen BP.out 1; have e_0 : w7.cell? ⟨g0, 0, none⟩ = some (.int .i64 a0_0) := (blk_cell HI7.out.b0 0).trans rfl; have e_q0 : w7.cell? ⟨g0, 1, none⟩ = some (.int .i64 a0_1) := (blk_cell HI7.out.b0 1).trans rfl; have e_1 : w7.cell? ⟨g1, 0, none⟩ = some (.int .i64 a1_0) := (blk_cell HI7.out.b1 0).trans rfl; have e_q1 : w7.cell? ⟨g1, 1, none⟩ = some (.int .i64 a1_1) := (blk_cell HI7.out.b1 1).trans rfl) | ((with_reducible refine gate_callee (f := 131) rfl ?_); refine goesL_ (some 79) rfl rfl Try.func131 (by kernel_rfl) rfl #[.agg #[.int .i64 a0_0, .int .i64 a0_1], .agg #[.int .i64 a1_0, .int .i64 a1_1], .agg #[.int .i64 px.f0, .int .i64 px.f1]] rfl (by (try simp only [List.map_toArray, List.map_cons, List.map_nil]); first | done | rfl | (simp only [List.length_drop, List.length_take]; rfl)) ?_; (with_reducible refine (spec_l02On.calls a0_0 a0_1 a1_0 a1_1 px.f0 px.f1 false _ HON.out).mono ?_); rintro e w8 ⟨rfl, hb⟩; refine ⟨_, rfl, ?_⟩; have BP8 := Ak (blk_below (blk_put (cs' := #[.int .i64 px.f0, .int .i64 px.f1]) (blk_put (cs' := #[.int .i64 px.f0, .int .i64 0]) BP.out 0 _ rfl) 1 _ rfl) hb); have HB8 := Ak (below_step (below_set (below_set HB7.out GP) GP) hb); clear hb; have f1 : w8.cell? ⟨gp, 0, none⟩ = some (.int .i64 px.f0) := (blk_cell BP8.out 0).trans rfl; have f2 : w8.cell? ⟨gp, 1, none⟩ = some (.int .i64 px.f1) := (blk_cell BP8.out 1).trans rfl))
        go_roundg k1
        case measure => exact Nat.lt_succ_self _
        case rel =>
         refine ⟨wrap64 (x_2 + 1), rfl, ⟨by rw [HWX.out]; have := HX.out; omega⟩, ⟨HI.out.below HB8.out⟩, ⟨by rw [HWX.out, HES.out]; exact Kd.R_below HR.out HB8.out⟩, ⟨?_⟩, ⟨blk_below BT.out HB8.out⟩, ⟨fun k hk => Nat.lt_of_lt_of_le (HL.out k hk) (below_size HB8.out)⟩⟩
         rw [HWX.out, HES.out]; have h1 := HLn.out; simp only [spec_l02Meet.step, Bool.false_eq_true, if_false]; omega
      | zero =>
       have hx2 : x_2 = 2 := by have := HX.out; omega
       subst hx2
       have hq2 : decide ((2 : Int) < 2) = false := rfl
       generalize HYS : (spec_l02Meet.ends a0_0 a0_1 a1_0 a1_1 a2_0 a2_1 a3_0 a3_1 (spec_l02Meet.ends a2_0 a2_1 a3_0 a3_1 a0_0 a0_1 a1_0 a1_1 [] 2) 2) = ys at HR HLn
       have HF2 := HF.out
       rw [show spec_l02Meet.all a0_0 a0_1 a1_0 a1_1 a2_0 a2_1 a3_0 a3_1 = ys from HYS] at HF2
       unfold spec_l02Meet.tail at HF2
       have HYL := Ak (show ys.length ≤ 4 from by have h1 := HLn.out; have h2 := HP2.out; omega)
       clear HF HYS hq2 HLn HP2 HX
       have HR0 := HR
       obtain ⟨An, cn, hv⟩ := Kd.R_slice HR.out
       subst hv
       by_cases k1 : (ys.length : Int) = 0
       ·rw [if_pos k1] at HF2
        obtain rfl := Option.some.inj HF2
        have k1b : ((ys.length : Int) == 0) = true := beq_iff_eq.mpr k1
        clear k1
        go_wp2
        go_ret
        exact ⟨rfl, HI.out.bel⟩
       ·rw [if_neg k1] at HF2
        have k1b : ((ys.length : Int) == 0) = false := beq_eq_false_iff_ne.mpr k1
        have k1c : ¬ (ys = []) := fun h_ => k1 (by rw [h_]; rfl)
        replace HF2 := Ak HF2
        go_wp2
        go_loopg [90] ys.length (fun gk vx wr => ∃ x : Int, vx = .int .i64 x ∧ Aside0 (0 ≤ x ∧ x + gk = ys.length) ∧ Aside0 (spec_l02Meet.Inv w wr g0 g1 g2 g3 a0_0 a0_1 a1_0 a1_1 a2_0 a2_1 a3_0 a3_1) ∧ Aside0 (Kd.R k27 27 wr w.heap.size (spec_l02Meet.okL w.heap.size [gl2, gl, g0, g1, g2, g3]) (.slice An ys.length cn) ys) ∧ Aside0 (∀ i : Nat, (i : Int) < x → spec_l02Meet.neq ys (i : Int) = false))
        case atStart => exact ⟨0, rfl, ⟨by omega⟩, HI, HR, ⟨fun i hi => by omega⟩⟩
        case round =>
         obtain ⟨x, rfl, HX, HI, HR, HN⟩ := hrel
         cases gk with
         | zero =>
          have c1 : decide (x < (ys.length : Int)) = false := decide_eq_false (by have := HX.out; omega)
          have HF3 := HF2.out
          rw [if_neg (by rw [Bool.not_eq_true, List.any_eq_false]; intro i hi; rw [Bool.not_eq_true]; exact HN.out i (by have := HX.out; have := List.mem_range.1 hi; omega))] at HF3
          obtain rfl := Option.some.inj HF3
          clear HF3 k1
          go_wp2
          go_ret
          exact ⟨rfl, HI.out.bel⟩
         | succ k2 =>
          have c1 : decide (x < (ys.length : Int)) = true := decide_eq_true (by have := HX.out; omega)
          have a0 : 0 ≤ x := by have := HX.out; omega
          have b0 : x < (ys.length : Int) := by have := HX.out; omega
          have c0 : (0 : Int) < (ys.length : Int) := by omega
          obtain ⟨Ar, cr, hv, hcl, HC⟩ := Kd.R_reads HR.out
          simp only [Value.slice.injEq] at hv
          obtain ⟨rfl, -, rfl⟩ := hv
          obtain ⟨ad, ead, u00, u01⟩ := at_T27 HC x a0 b0
          subst ead
          obtain ⟨ad1, ead1, u10, u11⟩ := at_T27 HC 0 (by omega) c0
          obtain rfl : ad = ad1 := (by injection ead1)
          replace u10 : wr.cell? ad = some (.int .i64 (rd_T27 ys 0).f0) := u10
          replace u11 : wr.cell? ⟨ad.block, ad.off + 1, none⟩ = some (.int .i64 (rd_T27 ys 0).f1) := u11
          have c0n : (0 < ys.length) = True := eq_true (by omega)
          generalize Hp : rd_T27 ys x = p at u00 u01
          generalize Hq : rd_T27 ys 0 = q at u10 u11
          have PE := Ak (show spec_l02Meet.neq ys x = !(p.f0 == q.f0 && (p.f1 == q.f1)) by unfold spec_l02Meet.neq; rw [Hp, Hq])
          clear ead1 HC hcl Hp Hq k1
          have HS : Aside0 (∀ w' : World, Below wr.heap.size wr w' → w'.cell? ad = some (.int .i64 q.f0) ∧ w'.cell? ⟨ad.block, ad.off + 1, none⟩ = some (.int .i64 q.f1)) := ⟨fun w' hb => ⟨(hb.cell (World.block_lt_of_cell? wr _ u10)).trans u10, (hb.cell (World.block_lt_of_cell? wr _ u11)).trans u11⟩⟩
          clear u10 u11
          replace a0 := eq_true a0
          replace b0 := eq_true b0
          replace c0 := eq_true c0
          have HWX := Ak (show wrap64 (x + 1) = x + 1 from spec_l02Meet.w64 (by have := HX.out; omega) (by have := HX.out; have := HYL.out; omega))
          go_upto_region 25 with (first | ((with_reducible refine gate_dst (N := 19) rfl ?_); refine box_event ?hg (N := 19) ?hd (cs := #[.int .i64 0, .int .i64 0]) (t := 27) ?hr ?_; (case hd | hg => rfl); (case hr => first | (go_simp; done) | (go_simp; rfl)); intro gp hgp w7 hbox hb; have GP : wr.heap.size ≤ gp := Nat.le_of_eq hgp.symm; have BP := Ak hbox; have HB7 := Ak hb; clear hbox hb hgp; have e1 : w7.cell? ⟨gp, 0, none⟩ = some (.int .i64 0) := (blk_cell BP.out 0).trans rfl; have e2 : w7.cell? ⟨gp, 1, none⟩ = some (.int .i64 0) := (blk_cell BP.out 1).trans rfl; have e3 := blk_frozen BP.out 0; have e4 := blk_frozen BP.out 1))
          replace BP := Ak (blk_drew (blk_put (cs' := #[.int .i64 p.f0, .int .i64 p.f1]) (blk_put (cs' := #[.int .i64 p.f0, .int .i64 0]) BP.out 0 _ rfl) 1 _ rfl))
          have HB8 := Ak (show Below wr.heap.size wr ((w7.setCell ⟨gp, 0, none⟩ (.int .i64 p.f0)).setCell ⟨gp, 1, none⟩ (.int .i64 p.f1)).drew from below_drew1 (below_set (below_set HB7.out GP) GP))
          clear e1 e2 e3 e4 HB7
          refine start_ (n := 5) (S := fun w' => (w'.cell? ⟨gp, 0, none⟩ = some (.int .i64 p.f0) ∧ w'.cell? ⟨gp, 1, none⟩ = some (.int .i64 p.f1)) ∧ (w'.cell? ad = some (.int .i64 q.f0) ∧ w'.cell? ⟨ad.block, ad.off + 1, none⟩ = some (.int .i64 q.f1))) (ds := []) #[F,F,F,F,F] (by kernel_rfl) rfl rfl ⟨⟨(blk_cell BP.out 0).trans rfl, (blk_cell BP.out 1).trans rfl⟩, HS.out _ HB8.out⟩ (fun hHeld => ?_)
          generalize ((w7.setCell ⟨gp, 0, none⟩ (.int .i64 p.f0)).setCell ⟨gp, 1, none⟩ (.int .i64 p.f1)).drew = wd at BP HB8 hHeld ⊢
          by_cases hE : (p.f0 == q.f0 && (p.f1 == q.f1)) = true
          ·skip
           refine take_ (i := 0) (N := some 94) (v := ?_) (a' := ?_) #[T,F,F,F,F] rfl rfl (by kernel_rfl) (fun _ _ _ h => h) (Or.inl ⟨by rfl, ?_⟩) hHeld ?_ ?_
           rotate_left
           ·rintro w' ⟨⟨q0, q1⟩, q2, q3⟩
            go_simp
            with_reducible rfl
           rotate_left
           ·simp only [Act.put, sA, sB, sC, sD, sE]
            rfl
           refine pure_ (i := 1) (N := some 95) (v := ?_) (a' := ?_) #[T,T,F,F,F] rfl rfl (by kernel_rfl) (fun _ _ _ h => h) (Or.inl ⟨by rfl, ?_⟩) ?_ ?_
           rotate_left
           ·intro w'
            go_simp
            with_reducible rfl
           rotate_left
           ·simp only [Act.put, sA, sB, sC, sD, sE]
            rfl
           refine pure_ (i := 2) (N := some 96) (v := ?_) (a' := ?_) #[T,T,T,F,F] rfl rfl (by kernel_rfl) (fun _ _ _ h => h) (Or.inl ⟨by rfl, ?_⟩) ?_ ?_
           rotate_left
           ·intro w'
            go_simp
            with_reducible rfl
           rotate_left
           ·simp only [Act.put, sA, sB, sC, sD, sE]
            rfl
           refine take_ (i := 3) (N := some 97) (v := ?_) (a' := ?_) #[T,T,T,T,F] rfl rfl (by kernel_rfl) (fun _ _ _ h => h) (Or.inl ⟨by rfl, ?_⟩) hHeld ?_ ?_
           rotate_left
           ·rintro w' ⟨⟨q0, q1⟩, q2, q3⟩
            go_simp
            with_reducible rfl
           rotate_left
           ·simp only [Act.put, sA, sB, sC, sD, sE]
            rfl
           refine pure_ (i := 4) (N := some 98) (v := ?_) (a' := ?_) #[T,T,T,T,T] rfl rfl (by kernel_rfl) (fun _ _ _ h => h) (Or.inl ⟨by rfl, ?_⟩) ?_ ?_
           rotate_left
           ·intro w'
            go_simp
            with_reducible rfl
           rotate_left
           ·simp only [Act.put, sA, sB, sC, sD, sE]
            rfl
           refine done_ (by kernel_rfl) ?_
           go_wp2
           go_roundg k2
           case measure => exact Nat.lt_succ_self _
           case rel =>
            refine ⟨wrap64 (x + 1), rfl, ⟨by rw [HWX.out]; have := HX.out; omega⟩, ⟨HI.out.below HB8.out⟩, ⟨Kd.R_below HR.out HB8.out⟩, ⟨fun i hi => ?_⟩⟩
            rw [HWX.out] at hi
            rcases Int.lt_or_eq_of_le (show (i : Int) ≤ x by omega) with h | h
            ·exact HN.out i h
            ·rw [h, PE.out, hE]; rfl
          ·replace hE := Bool.eq_false_iff.mpr hE
           refine take_ (i := 0) (N := some 94) (v := ?_) (a' := ?_) #[T,F,F,F,F] rfl rfl (by kernel_rfl) (fun _ _ _ h => h) (Or.inl ⟨by rfl, ?_⟩) hHeld ?_ ?_
           rotate_left
           ·rintro w' ⟨⟨q0, q1⟩, q2, q3⟩
            go_simp
            with_reducible rfl
           rotate_left
           ·simp only [Act.put, sA, sB, sC, sD, sE]
            rfl
           refine pure_ (i := 1) (N := some 95) (v := ?_) (a' := ?_) #[T,T,F,F,F] rfl rfl (by kernel_rfl) (fun _ _ _ h => h) (Or.inl ⟨by rfl, ?_⟩) ?_ ?_
           rotate_left
           ·intro w'
            go_simp
            with_reducible rfl
           rotate_left
           ·simp only [Act.put, sA, sB, sC, sD, sE]
            rfl
           refine pure_ (i := 2) (N := some 96) (v := ?_) (a' := ?_) #[T,T,T,F,F] rfl rfl (by kernel_rfl) (fun _ _ _ h => h) (Or.inl ⟨by rfl, ?_⟩) ?_ ?_
           rotate_left
           ·intro w'
            go_simp
            with_reducible rfl
           rotate_left
           ·simp only [Act.put, sA, sB, sC, sD, sE]
            rfl
           refine take_ (i := 3) (N := some 97) (v := ?_) (a' := ?_) #[T,T,T,T,F] rfl rfl (by kernel_rfl) (fun _ _ _ h => h) (Or.inl ⟨by rfl, ?_⟩) hHeld ?_ ?_
           rotate_left
           ·rintro w' ⟨⟨q0, q1⟩, q2, q3⟩
            go_simp
            with_reducible rfl
           rotate_left
           ·simp only [Act.put, sA, sB, sC, sD, sE]
            rfl
           refine pure_ (i := 4) (N := some 98) (v := ?_) (a' := ?_) #[T,T,T,T,T] rfl rfl (by kernel_rfl) (fun _ _ _ h => h) (Or.inl ⟨by rfl, ?_⟩) ?_ ?_
           rotate_left
           ·intro w'
            go_simp
            with_reducible rfl
           rotate_left
           ·simp only [Act.put, sA, sB, sC, sD, sE]
            rfl
           refine done_ (by kernel_rfl) ?_
           have HF3 := HF2.out
           rw [if_pos (by rw [List.any_eq_true]; refine ⟨x.toNat, List.mem_range.2 (by have := HX.out; omega), ?_⟩; rw [show ((x.toNat : Nat) : Int) = x by have := HX.out; omega, PE.out, hE]; rfl)] at HF3
           obtain rfl := Option.some.inj HF3
           clear HF3
           go_wp2
           go_ret
           exact ⟨rfl, (HI.out.below HB8.out).bel⟩

end Go.Proofs.Ytphcblbkofiidaa.G
