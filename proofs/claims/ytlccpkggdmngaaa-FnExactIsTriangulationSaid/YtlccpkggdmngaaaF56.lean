/- A Go function as a plain Lean function, and the proof that Go's call comes to its answer. No conditions but those in the theorem. Written by gen.py (a program of this session over the kit's print). -/
-- SHRUNK by pack.py
import Derived.Test.YtlccpkggdmngaaaG0
import Derived.Test.YtlccpkggdmngaaaE27
import Derived.Test.YtlccpkggdmngaaaFA
namespace Go.Proofs.Ytlccpkggdmngaaa.G
open Go.RowKit Go.Proofs.YtlccpkggdmngaaaW.PrintWords Go.Proofs.YtlccpkggdmngaaaW.PrintLast Go.Proofs.YtlccpkggdmngaaaW.PrintMore Go.Proofs.YtlccpkggdmngaaaW.PrintBits
attribute [local go_sem] max2_int min2_int max_two min_two max_three min_three max_four min_four   -- for this text's walks alone
set_option linter.unusedVariables false
set_option linter.unusedSimpArgs false

/-! ### impl_meet: function 56 -/
/-- What the closure does to the list of ends. -/
def impl_meet.add (xs : List S27) (p0 p1 : Int) : List S27 := if xs.any (fun q => p0 == q.f0 && (p1 == q.f1)) = true then xs else xs ++ [⟨p0, p1⟩]
attribute [local go_sem high] eqA27
set_option maxHeartbeats 4000000 in
set_option maxRecDepth 100000 in
theorem impl_meet_add.calls (p0 p1 : Int) (g base : Nat) (v : Value) (xs : List S27) (ok : Nat → Prop) (w : World)
  (hb : w.heap[g]? = some (.cells #[v] 23 (0, 0))) (ho : Kd.R k27 27 w base ok v xs) (hok : ¬ ok g) (hnew : ∀ k, w.heap.size ≤ k → ok k) (hbase : base ≤ w.heap.size) (hbg : base ≤ g) (hl : xs.length ≤ 1000) :
  Calls Try.prog 99 #[.agg #[.int .i64 p0, .int .i64 p1], .pointer (some ⟨g, 0, none⟩)] w fun e w' => e = .returned (.tuple #[]) ∧
   ∃ v', w'.heap[g]? = some (.cells #[v'] 23 (0, 0)) ∧ Kd.R k27 27 w' base ok v' (impl_meet.add xs p0 p1) ∧ Below base w w' ∧ ∀ k, k < w.heap.size → k ≠ g → ¬ ok k → w'.heap[k]? = w.heap[k]? := by
 have hu1 := Try.underlying27; have hu2 := Try.underlying23; obtain ⟨A, c, rfl, hc, hC⟩ := Kd.R_reads ho; have HO := Ak ho; have HBG := Ak hb; have HC := Ak hC; clear ho hb hC
 go_enter Try.func99, Try.ntmps99
 go_wp2_with (first | ((with_reducible refine gate_dst (N := 2) rfl ?_); refine box_event ?hg (N := 2) ?hd (cs := #[.int .i64 p0, .int .i64 p1]) (t := 27) ?hr ?_; (case hd | hg => rfl); (case hr => first | (go_simp; done) | (go_simp; rfl)); intro gb hgb w1 hbox hbel; have BK := Ak hbox; have HB := Ak hbel; have GE : w.heap.size ≤ gb := Nat.le_of_eq hgb.symm; have HG1 := Ak (blk_below HBG.out hbel); have hcg : w1.cell? ⟨g, 0, none⟩ = some (.slice A xs.length c) := (blk_cell HG1.out 0).trans rfl; clear hbox hbel hgb))
 go_loopg [7] xs.length (fun gk v7 wr => ∃ x : Int, v7 = .int .i64 x ∧ Aside0 (0 ≤ x ∧ x + gk = xs.length) ∧ Aside0 (∀ j : Nat, (j : Int) < x → (p0 == (rd_T27 xs (j : Int)).f0 && (p1 == (rd_T27 xs (j : Int)).f1)) = false) ∧ Aside0 (Below w.heap.size w wr) ∧ Aside0 (wr.heap[gb]? = some (.cells #[.int .i64 p0, .int .i64 p1] 27 (0, 0))))
 case atStart => exact ⟨0, rfl, ⟨by omega⟩, ⟨fun j hj => by omega⟩, HB, BK⟩
 case round =>
  obtain ⟨x, rfl, HX, HN, HB, BK⟩ := hrel; have HG := Ak (blk_below HBG.out HB.out); have hcg : wr.cell? ⟨g, 0, none⟩ = some (.slice A xs.length c) := (blk_cell HG.out 0).trans rfl; have hfg := blk_frozen HG.out 0; have hcb0 : wr.cell? ⟨gb, 0, none⟩ = some (.int .i64 p0) := (blk_cell BK.out 0).trans rfl; have hcb1 : wr.cell? ⟨gb, 1, none⟩ = some (.int .i64 p1) := (blk_cell BK.out 1).trans rfl
  cases gk with
  | zero =>
   have c1 : decide (x < (xs.length : Int)) = false := decide_eq_false (by have := HX.out; omega)
   have HNN : impl_meet.add xs p0 p1 = xs ++ [⟨p0, p1⟩] := by
    unfold impl_meet.add; rw [if_neg]; rw [Bool.not_eq_true, List.any_eq_false]; intro q hq; obtain ⟨j, hj, rfl⟩ := List.getElem_of_mem hq; have := HN.out j (by have := HX.out; omega); simp only [rd_T27, Int.toNat_natCast, List.getD_eq_getElem?_getD, List.getElem?_eq_getElem hj, Option.getD_some] at this; rw [this]; exact Bool.false_ne_true
   replace HNN := Ak HNN; clear HN
   go_wp2_with (first | ((with_reducible refine gate_builtin (b := .append) (xs := #[.tmp 15, .tmp 17]) rfl ?_); at_builtin; go_loud (refine Kd.R_append k27 (w0 := w) base rfl (.tmp 15) (.tmp 17) 23 27 (.agg #[(.int .i64 0), (.int .i64 0)]) 16 rfl Try.underlying23 info27 rfl (by decide) (by omega) (.slice A xs.length c) xs (⟨p0, p1⟩ : S27) [.int .i64 p0, .int .i64 p1] ok (fun _ => False) rfl rfl ?aP (fun _ hk => hk.elim) ?aF ?aO ?aB ?aS ?aL ?_); (case aP => exact k27_mkM _ _ _ (⟨p0, p1⟩ : S27)); (case aF => exact fun k hk => hnew k (Nat.le_trans (below_size HB.out) hk)); (case aO => exact Kd.R_below HO.out HB.out); (case aB => exact HB.out.mono hbase); (case aS => exact Nat.le_trans hbase (below_size HB.out)); (case aL => omega); intro v1 w2 ho hb2 hg hat; obtain ⟨A1, cp1, hv1⟩ := Kd.R_slice ho; rw [List.length_append, List.length_singleton] at hv1; subst hv1; have HO2 := Ak ho; have HG2 := Ak (blk_grown HG.out hg (fun e => hok (HO.out.1 g e.symm))); have HGR := Ak hg; have HB2 := Ak hb2; clear ho hg hb2 hat; have hcg2 : w2.cell? ⟨g, 0, none⟩ = some (.slice A xs.length c) := (blk_cell HG2.out 0).trans rfl; have hfg2 := blk_frozen HG2.out 0))
   go_end0
   refine ⟨rfl, .slice A1 (xs.length + 1) cp1, ?_, ?_, ?_, ?_⟩
   ·exact blk_put HG2.out 0 _ rfl
   ·rw [HNN.out]; exact Kd.R_far HO2.out (p := ⟨g, 0, none⟩) (fun k hk e => hok (by have e2 : k = g := e; subst e2; exact hk)) _
   ·exact HB2.out.setCell hbg _
   ·intro k hk hkg hkok; rw [Below.heap_setCell _ _ _ _ hkg, HGR.out.block k (by have := below_size HB.out; omega) (fun e => hkok (HO.out.1 k e.symm))]; exact HB.out.block k hk
  | succ k1 =>
   have c1 : decide (x < (xs.length : Int)) = true := decide_eq_true (by have := HX.out; omega); have p124 : 0 ≤ x := by have := HX.out; omega
   have q124 : x < (xs.length : Int) := by have := HX.out; omega
   obtain ⟨ad, e124, hx0, hx1⟩ := at_T27 HC.out x p124 q124; subst e124; replace hx0 := cB HB.out hx0; replace hx1 := cB HB.out hx1; have P124 := Ak p124; have Q124 := Ak q124; replace p124 := eq_true p124; replace q124 := eq_true q124
   by_cases hE : (p0 == (rd_T27 xs x).f0 && (p1 == (rd_T27 xs x).f1)) = true
   ·go_wp2_with (first | ((with_reducible refine gate_dst (N := 4) rfl ?_); refine box_event ?hg (N := 4) ?hd (cs := #[.int .i64 0, .int .i64 0]) (t := 27) ?hr ?_; (case hd | hg => rfl); (case hr => first | (go_simp; done) | (go_simp; rfl)); intro gb2 hg2 w3 hbox hb3; have hne : gb ≠ gb2 := (by rw [hg2]; exact Nat.ne_of_lt (blk_lt BK.out)); have hne2 : gb2 ≠ gb := hne.symm; have GE2 : w.heap.size ≤ gb2 := (by rw [hg2]; exact below_size HB.out); have BK3 := Ak (blk_below BK.out hb3); have HB3 := Ak (below_step HB.out hb3); have BK2 := Ak hbox; clear hbox hb3 hg2; have hcb20 : w3.cell? ⟨gb2, 0, none⟩ = some (.int .i64 0) := (blk_cell BK2.out 0).trans rfl; have hcb21 : w3.cell? ⟨gb2, 1, none⟩ = some (.int .i64 0) := (blk_cell BK2.out 1).trans rfl; have hfb20 := blk_frozen BK2.out 0; have hfb21 := blk_frozen BK2.out 1; have hcb30 : w3.cell? ⟨gb, 0, none⟩ = some (.int .i64 p0) := (blk_cell BK3.out 0).trans rfl; have hcb31 : w3.cell? ⟨gb, 1, none⟩ = some (.int .i64 p1) := (blk_cell BK3.out 1).trans rfl))
    refine bodyPost_ret (results_none rfl _ _ _) rfl ?_; have HBE : Below w.heap.size w ((w3.setCell ⟨gb2, 0, none⟩ (.int .i64 (rd_T27 xs x).f0)).setCell ⟨gb2, 1, none⟩ (.int .i64 (rd_T27 xs x).f1)) := below_set (below_set HB3.out GE2) GE2; refine ⟨rfl, .slice (some ad) xs.length c, blk_below HBG.out HBE, ?_, HBE.mono hbase, fun k hk _ _ => HBE.block k hk⟩
    have e : impl_meet.add xs p0 p1 = xs := by
     unfold impl_meet.add; rw [if_pos]; refine List.any_eq_true.2 ⟨rd_T27 xs x, ?_, hE⟩; have hx : x.toNat < xs.length := by have := P124.out; have := Q124.out; omega
     simp only [rd_T27, List.getD_eq_getElem?_getD, List.getElem?_eq_getElem hx, Option.getD_some]; exact List.getElem_mem hx
    rw [e]; exact Kd.R_below HO.out HBE
   ·replace hE := Bool.eq_false_iff.mpr hE
    go_wp2_with (first | ((with_reducible refine gate_dst (N := 4) rfl ?_); refine box_event ?hg (N := 4) ?hd (cs := #[.int .i64 0, .int .i64 0]) (t := 27) ?hr ?_; (case hd | hg => rfl); (case hr => first | (go_simp; done) | (go_simp; rfl)); intro gb2 hg2 w3 hbox hb3; have hne : gb ≠ gb2 := (by rw [hg2]; exact Nat.ne_of_lt (blk_lt BK.out)); have hne2 : gb2 ≠ gb := hne.symm; have GE2 : w.heap.size ≤ gb2 := (by rw [hg2]; exact below_size HB.out); have BK3 := Ak (blk_below BK.out hb3); have HB3 := Ak (below_step HB.out hb3); have BK2 := Ak hbox; clear hbox hb3 hg2; have hcb20 : w3.cell? ⟨gb2, 0, none⟩ = some (.int .i64 0) := (blk_cell BK2.out 0).trans rfl; have hcb21 : w3.cell? ⟨gb2, 1, none⟩ = some (.int .i64 0) := (blk_cell BK2.out 1).trans rfl; have hfb20 := blk_frozen BK2.out 0; have hfb21 := blk_frozen BK2.out 1; have hcb30 : w3.cell? ⟨gb, 0, none⟩ = some (.int .i64 p0) := (blk_cell BK3.out 0).trans rfl; have hcb31 : w3.cell? ⟨gb, 1, none⟩ = some (.int .i64 p1) := (blk_cell BK3.out 1).trans rfl))
    go_roundg k1
    case measure => exact Nat.lt_succ_self _
    case rel =>
     refine ⟨wrap64 (x + 1), rfl, ⟨?_⟩, ⟨?_⟩, ⟨below_set (below_set HB3.out GE2) GE2⟩, ⟨blk_far (blk_far BK3.out hne _) hne _⟩⟩
     ·have := HX.out; unfold wrap64; omega
     ·intro j hj
      rcases Int.lt_or_eq_of_le (show (j : Int) ≤ x by have := HX.out; unfold wrap64 at hj; omega) with h | h
      ·exact HN.out j h
      ·rw [h]; exact hE

/-- isOn's answer (it always has one). -/
def impl_meet.onW (a0 a1 b0 b1 p0 p1 : Int) : Bool := (impl_isOn.f a0 a1 b0 b1 p0 p1).getD false
theorem impl_meet.on_some (a0 a1 b0 b1 p0 p1 : Int) : impl_isOn.f a0 a1 b0 b1 p0 p1 = some (impl_meet.onW a0 a1 b0 b1 p0 p1) := by
 have : ∃ r, impl_isOn.f a0 a1 b0 b1 p0 p1 = some r := by
  unfold impl_isOn.f impl_cross.f impl_within.f
  simp only [Option.bind_some]
  split
  ·split
   ·simp only [Option.bind_some]
    split
    ·split
     ·exact ⟨_, rfl⟩
     ·exact ⟨_, rfl⟩
    ·exact ⟨_, rfl⟩
   ·exact ⟨_, rfl⟩
  ·exact ⟨_, rfl⟩
 obtain ⟨r, hr⟩ := this
 unfold impl_meet.onW; rw [hr]; rfl
/-- One round: the point is added if it is on the segment. -/
def impl_meet.step (o : Bool) (xs : List S27) (p0 p1 : Int) : List S27 := if o = true then impl_meet.add xs p0 p1 else xs
/-- The ends behind x rounds of a loop over the points p and q, on the segment from a to b. -/
def impl_meet.ends (a0 a1 b0 b1 p0 p1 q0 q1 : Int) (xs : List S27) (x : Int) : List S27 :=
 if x ≤ 0 then xs else if x ≤ 1 then impl_meet.step (impl_meet.onW a0 a1 b0 b1 p0 p1) xs p0 p1
 else impl_meet.step (impl_meet.onW a0 a1 b0 b1 q0 q1) (impl_meet.step (impl_meet.onW a0 a1 b0 b1 p0 p1) xs p0 p1) q0 q1
def impl_meet.all (a0_0 a0_1 a1_0 a1_1 a2_0 a2_1 a3_0 a3_1 : Int) : List S27 := impl_meet.ends a2_0 a2_1 a3_0 a3_1 a0_0 a0_1 a1_0 a1_1 (impl_meet.ends a0_0 a0_1 a1_0 a1_1 a2_0 a2_1 a3_0 a3_1 [] 2) 2
def impl_meet.f (a0_0 a0_1 a1_0 a1_1 a2_0 a2_1 a3_0 a3_1 : Int) : Option Int :=
 if ((impl_meet.all a0_0 a0_1 a1_0 a1_1 a2_0 a2_1 a3_0 a3_1).length : Int) > 1 then some 3 else if ((impl_meet.all a0_0 a0_1 a1_0 a1_1 a2_0 a2_1 a3_0 a3_1).length : Int) = 1 then some 1 else
 (impl_cross.f a0_0 a0_1 a1_0 a1_1 a2_0 a2_1).bind fun x1 => (impl_sign.f x1).bind fun s1 => (impl_cross.f a0_0 a0_1 a1_0 a1_1 a3_0 a3_1).bind fun x2 => (impl_sign.f x2).bind fun s2 =>
 if wrap64 (s1 * s2) < 0 then ((impl_cross.f a2_0 a2_1 a3_0 a3_1 a0_0 a0_1).bind fun x3 => (impl_sign.f x3).bind fun s3 => (impl_cross.f a2_0 a2_1 a3_0 a3_1 a1_0 a1_1).bind fun x4 => (impl_sign.f x4).bind fun s4 => if wrap64 (s3 * s4) < 0 then some 2 else some 0) else some 0
theorem wrap64_id_ {x : Int} (h0 : -9223372036854775808 ≤ x) (h1 : x ≤ 9223372036854775807) : wrap64 x = x := by unfold wrap64; omega
theorem impl_meet.ends_0 (a0 a1 b0 b1 p0 p1 q0 q1 : Int) (xs : List S27) : impl_meet.ends a0 a1 b0 b1 p0 p1 q0 q1 xs 0 = xs := by unfold impl_meet.ends; rw [if_pos (Int.le_refl 0)]
theorem impl_meet.ends_succ (a0 a1 b0 b1 p0 p1 q0 q1 : Int) (xs : List S27) (x : Int) (h0 : 0 ≤ x) (h1 : x < 2) : impl_meet.ends a0 a1 b0 b1 p0 p1 q0 q1 xs (x + 1) = impl_meet.step (impl_meet.onW a0 a1 b0 b1 (rd_T27 [(⟨p0, p1⟩ : S27), ⟨q0, q1⟩] x).f0 (rd_T27 [(⟨p0, p1⟩ : S27), ⟨q0, q1⟩] x).f1) (impl_meet.ends a0 a1 b0 b1 p0 p1 q0 q1 xs x) (rd_T27 [(⟨p0, p1⟩ : S27), ⟨q0, q1⟩] x).f0 (rd_T27 [(⟨p0, p1⟩ : S27), ⟨q0, q1⟩] x).f1 := by
 rcases (show x = 0 ∨ x = 1 by omega) with rfl | rfl <;> rfl
theorem impl_meet.add_len (xs : List S27) (p0 p1 : Int) : (impl_meet.add xs p0 p1).length ≤ xs.length + 1 := by
 unfold impl_meet.add; split <;> simp
/-- The blocks that the ends' row may have. -/
def impl_meet.okL (B : Nat) (L : List Nat) (k : Nat) : Prop := B ≤ k ∧ k ∉ L
/-- What holds at each loop's head. -/
structure impl_meet.Inv (w wr : World) (g0 g1 g2 g3 g : Nat) (a0_0 a0_1 a1_0 a1_1 a2_0 a2_1 a3_0 a3_1 : Int) (L : List Nat) (v : Value) (xs : List S27) : Prop where
 b0 : wr.heap[g0]? = some (.cells #[.int .i64 a0_0, .int .i64 a0_1] 27 (0, 0))
 b1 : wr.heap[g1]? = some (.cells #[.int .i64 a1_0, .int .i64 a1_1] 27 (0, 0))
 b2 : wr.heap[g2]? = some (.cells #[.int .i64 a2_0, .int .i64 a2_1] 27 (0, 0))
 b3 : wr.heap[g3]? = some (.cells #[.int .i64 a3_0, .int .i64 a3_1] 27 (0, 0))
 bg : wr.heap[g]? = some (.cells #[v] 23 (0, 0))
 r : Kd.R k27 27 wr w.heap.size (impl_meet.okL w.heap.size L) v xs
 bel : Below w.heap.size w wr
theorem impl_meet.Inv.below {w wr w2 : World} {g0 g1 g2 g3 g : Nat} {a0_0 a0_1 a1_0 a1_1 a2_0 a2_1 a3_0 a3_1 : Int} {L : List Nat} {v : Value} {xs : List S27} (h : impl_meet.Inv w wr g0 g1 g2 g3 g a0_0 a0_1 a1_0 a1_1 a2_0 a2_1 a3_0 a3_1 L v xs) (hb : Below wr.heap.size wr w2) : impl_meet.Inv w w2 g0 g1 g2 g3 g a0_0 a0_1 a1_0 a1_1 a2_0 a2_1 a3_0 a3_1 L v xs :=
 ⟨blk_below h.b0 hb, blk_below h.b1 hb, blk_below h.b2 hb, blk_below h.b3 hb, blk_below h.bg hb, Kd.R_below h.r hb, below_step h.bel hb⟩
theorem impl_meet.Inv.same {w wr w2 : World} {g0 g1 g2 g3 g : Nat} {a0_0 a0_1 a1_0 a1_1 a2_0 a2_1 a3_0 a3_1 : Int} {L : List Nat} {v v2 : Value} {xs ys : List S27} (h : impl_meet.Inv w wr g0 g1 g2 g3 g a0_0 a0_1 a1_0 a1_1 a2_0 a2_1 a3_0 a3_1 L v xs)
  (hL : ∀ k, k = g0 ∨ k = g1 ∨ k = g2 ∨ k = g3 → k ∈ L ∧ k ≠ g) (hb : Below w.heap.size wr w2) (hg : w2.heap[g]? = some (.cells #[v2] 23 (0, 0))) (hr : Kd.R k27 27 w2 w.heap.size (impl_meet.okL w.heap.size L) v2 ys)
  (hs : ∀ k, k < wr.heap.size → k ≠ g → ¬ impl_meet.okL w.heap.size L k → w2.heap[k]? = wr.heap[k]?) : impl_meet.Inv w w2 g0 g1 g2 g3 g a0_0 a0_1 a1_0 a1_1 a2_0 a2_1 a3_0 a3_1 L v2 ys := by
 have key : ∀ k o, (k = g0 ∨ k = g1 ∨ k = g2 ∨ k = g3) → wr.heap[k]? = some o → w2.heap[k]? = some o := fun k o hk ho => (hs k (blk_lt ho) (hL k hk).2 (fun hn => hn.2 (hL k hk).1)).trans ho
 exact ⟨key _ _ (.inl rfl) h.b0, key _ _ (.inr (.inl rfl)) h.b1, key _ _ (.inr (.inr (.inl rfl))) h.b2, key _ _ (.inr (.inr (.inr rfl))) h.b3, hg, hr, h.bel.trans hb⟩
theorem impl_meet.Inv.fresh {w wr : World} {g0 g1 g2 g3 g n : Nat} {a0_0 a0_1 a1_0 a1_1 a2_0 a2_1 a3_0 a3_1 : Int} {L : List Nat} {v : Value} {xs : List S27} (h : impl_meet.Inv w wr g0 g1 g2 g3 g a0_0 a0_1 a1_0 a1_1 a2_0 a2_1 a3_0 a3_1 L v xs) (hn : wr.heap.size ≤ n) : impl_meet.Inv w wr g0 g1 g2 g3 g a0_0 a0_1 a1_0 a1_1 a2_0 a2_1 a3_0 a3_1 (n :: L) v xs :=
 ⟨h.b0, h.b1, h.b2, h.b3, h.bg, Kd.R_mono (Kd.R_bound h.r) (fun k hk => ⟨hk.1.1, fun hm => by
  rcases List.mem_cons.1 hm with e | e
  ·have := hk.2.2.1; omega
  ·exact hk.1.2 e⟩), h.bel⟩
/-- A row of two points in one block. -/
theorem impl_meet.two {w : World} {g : Nat} {p0 p1 q0 q1 : Int} (h : w.heap[g]? = some (.cells #[.int .i64 p0, .int .i64 p1, .int .i64 q0, .int .i64 q1] 27 (0, 0))) : Kd.C k27 w (some ⟨g, 0, none⟩) 2 [(⟨p0, p1⟩ : S27), ⟨q0, q1⟩] := by
 refine ⟨rfl, by omega, fun _ => ⟨_, rfl, fun j p hj => ?_⟩⟩
 match j, hj with
 | 0, hj =>
  simp at hj; subst hj
  refine ⟨[.int .i64 p0, .int .i64 p1], rfl, k27_mk _ _, fun i u hu => ?_⟩
  match i, hu with
  | 0, hu => simp at hu; subst hu; exact (blk_cell h 0).trans rfl
  | 1, hu => simp at hu; subst hu; exact (blk_cell h 1).trans rfl
  | i + 2, hu => simp at hu
 | 1, hj =>
  simp at hj; subst hj
  refine ⟨[.int .i64 q0, .int .i64 q1], rfl, k27_mk _ _, fun i u hu => ?_⟩
  match i, hu with
  | 0, hu => simp at hu; subst hu; exact (blk_cell h 2).trans rfl
  | 1, hu => simp at hu; subst hu; exact (blk_cell h 3).trans rfl
  | i + 2, hu => simp at hu
 | j + 2, hj => simp at hj
theorem impl_meet.none_ {w : World} {g B : Nat} {ok : Nat → Prop} (h : w.heap[g]? = some (.cells #[] 27 (0, 0))) (hB : B ≤ g) (ho : ok g) : Kd.R k27 27 w B ok (.slice (some ⟨g, 0, none⟩) 0 0) [] :=
 ⟨fun k hk => (show g = k by simpa [Value.ownBlock] using hk) ▸ ho, [], ⟨rfl, .inr ⟨g, 0, #[], rfl, hB, h, Nat.le_refl _, Nat.zero_le _, rfl, rfl⟩⟩, Reps.none _ _⟩
section
variable {Pg : Program} {ops : Array Oper} {rest : List Oper} {o : Oper} {a : Act} {Q : Exit → Act → World → Prop}
theorem impl_meet.lit_event {W : World} (hgd : o.guard = none) {N : Tmp} (_hd : o.dst = some N) {c : Array Value} {t : TypeId} {n : Nat}
  (hrun : (execOp a.eval o).run Pg W = .ok (.value (.slice (some ⟨W.heap.size, 0, none⟩) n n)) (W.alloc (.cells c t (0, 0))))
  (h : ∀ g, g = W.heap.size → ∀ w1, w1.heap[g]? = some (.cells c t (0, 0)) → Below W.heap.size W w1 → wpList Pg ops Q rest (a.put o.dst (.slice (some ⟨g, 0, none⟩) n n)) w1) : wpList Pg ops Q (o :: rest) a W :=
 Kd.event_run hgd hrun (h _ rfl _ (blk_new W _) (below_alloc (Below.refl _ _) _))
end

set_option maxHeartbeats 8000000 in
set_option maxRecDepth 100000 in
theorem impl_meet.calls (a0_0 a0_1 a1_0 a1_1 a2_0 a2_1 a3_0 a3_1 : Int) (r : Int) (w : World) (h : impl_meet.f a0_0 a0_1 a1_0 a1_1 a2_0 a2_1 a3_0 a3_1 = some r) :
  Calls Try.prog 56 #[.agg #[.int .i64 a0_0, .int .i64 a0_1], .agg #[.int .i64 a1_0, .int .i64 a1_1], .agg #[.int .i64 a2_0, .int .i64 a2_1], .agg #[.int .i64 a3_0, .int .i64 a3_1]] w fun e w' => e = .returned (.int .i64 r) ∧ Below w.heap.size w w' := by
 have hu1 := Try.underlying27; have hu2 := Try.underlying23; have hmf : ∀ (fn : Fn) (first cap : Array Value) (w : World), (Instr.makeFunc fn first cap).run Try.prog w = .ok (.func fn first cap) w := fun _ _ _ _ => rfl
 have H := Ak h; clear h
 go_enter Try.func56, Try.ntmps56
 go_wp2_with (first | ((with_reducible refine gate_dst (N := 4) rfl ?_); refine box_event ?hg (N := 4) ?hd (cs := #[.int .i64 a0_0, .int .i64 a0_1]) (t := 27) ?hr ?_; (case hd | hg => rfl); (case hr => first | (go_simp; done) | (go_simp; rfl)); intro g0 hg0 w0 hbox hb; have B00 := Ak hbox; have HB0 := Ak (hb); have G0 : w.heap.size ≤ g0 := (by rw [hg0]; exact Nat.le_refl _); clear hbox hb hg0) | ((with_reducible refine gate_dst (N := 5) rfl ?_); refine box_event ?hg (N := 5) ?hd (cs := #[.int .i64 a1_0, .int .i64 a1_1]) (t := 27) ?hr ?_; (case hd | hg => rfl); (case hr => first | (go_simp; done) | (go_simp; rfl)); intro g1 hg1 w1 hbox hb; have B01 := Ak (blk_below B00.out hb); have N01 : g0 ≠ g1 := (by rw [hg1]; exact Nat.ne_of_lt (blk_lt B00.out)); have B11 := Ak hbox; have HB1 := Ak (below_step HB0.out hb); have G1 : w.heap.size ≤ g1 := (by rw [hg1]; exact below_size HB0.out); clear hbox hb hg1) | ((with_reducible refine gate_dst (N := 6) rfl ?_); refine box_event ?hg (N := 6) ?hd (cs := #[.int .i64 a2_0, .int .i64 a2_1]) (t := 27) ?hr ?_; (case hd | hg => rfl); (case hr => first | (go_simp; done) | (go_simp; rfl)); intro g2 hg2 w2 hbox hb; have B02 := Ak (blk_below B01.out hb); have N02 : g0 ≠ g2 := (by rw [hg2]; exact Nat.ne_of_lt (blk_lt B01.out)); have B12 := Ak (blk_below B11.out hb); have N12 : g1 ≠ g2 := (by rw [hg2]; exact Nat.ne_of_lt (blk_lt B11.out)); have B22 := Ak hbox; have HB2 := Ak (below_step HB1.out hb); have G2 : w.heap.size ≤ g2 := (by rw [hg2]; exact below_size HB1.out); clear hbox hb hg2) | ((with_reducible refine gate_dst (N := 7) rfl ?_); refine box_event ?hg (N := 7) ?hd (cs := #[.int .i64 a3_0, .int .i64 a3_1]) (t := 27) ?hr ?_; (case hd | hg => rfl); (case hr => first | (go_simp; done) | (go_simp; rfl)); intro g3 hg3 w3 hbox hb; have B03 := Ak (blk_below B02.out hb); have N03 : g0 ≠ g3 := (by rw [hg3]; exact Nat.ne_of_lt (blk_lt B02.out)); have B13 := Ak (blk_below B12.out hb); have N13 : g1 ≠ g3 := (by rw [hg3]; exact Nat.ne_of_lt (blk_lt B12.out)); have B23 := Ak (blk_below B22.out hb); have N23 : g2 ≠ g3 := (by rw [hg3]; exact Nat.ne_of_lt (blk_lt B22.out)); have B33 := Ak hbox; have HB3 := Ak (below_step HB2.out hb); have G3 : w.heap.size ≤ g3 := (by rw [hg3]; exact below_size HB2.out); clear hbox hb hg3) | ((with_reducible refine gate_dst (N := 15) rfl ?_); refine impl_meet.lit_event ?hg (N := 15) ?hd (c := #[]) (t := 27) (n := 0) ?hr ?_; (case hd | hg => rfl); (case hr => first | (go_simp; done) | (go_simp; rfl)); intro gl0 hgl w4 hbox hb; have B04 := Ak (blk_below B03.out hb); have N04 : g0 ≠ gl0 := (by rw [hgl]; exact Nat.ne_of_lt (blk_lt B03.out)); have B14 := Ak (blk_below B13.out hb); have N14 : g1 ≠ gl0 := (by rw [hgl]; exact Nat.ne_of_lt (blk_lt B13.out)); have B24 := Ak (blk_below B23.out hb); have N24 : g2 ≠ gl0 := (by rw [hgl]; exact Nat.ne_of_lt (blk_lt B23.out)); have B34 := Ak (blk_below B33.out hb); have N34 : g3 ≠ gl0 := (by rw [hgl]; exact Nat.ne_of_lt (blk_lt B33.out)); have BL4 := Ak hbox; have HB4 := Ak (below_step HB3.out hb); have GL : w.heap.size ≤ gl0 := (by rw [hgl]; exact below_size HB3.out); clear hbox hb hgl) | ((with_reducible refine gate_dst (N := 9) rfl ?_); refine box_event ?hg (N := 9) ?hd (cs := #[.slice none 0 0]) (t := 23) ?hr ?_; (case hd | hg => rfl); (case hr => first | (go_simp; done) | (go_simp; rfl)); intro g hg5 w5 hbox hb; have B05 := Ak (blk_below B04.out hb); have N05 : g0 ≠ g := (by rw [hg5]; exact Nat.ne_of_lt (blk_lt B04.out)); have B15 := Ak (blk_below B14.out hb); have N15 : g1 ≠ g := (by rw [hg5]; exact Nat.ne_of_lt (blk_lt B14.out)); have B25 := Ak (blk_below B24.out hb); have N25 : g2 ≠ g := (by rw [hg5]; exact Nat.ne_of_lt (blk_lt B24.out)); have B35 := Ak (blk_below B34.out hb); have N35 : g3 ≠ g := (by rw [hg5]; exact Nat.ne_of_lt (blk_lt B34.out)); have BL5 := Ak (blk_below BL4.out hb); have NL5 : gl0 ≠ g := (by rw [hg5]; exact Nat.ne_of_lt (blk_lt BL4.out)); have BG5 := Ak hbox; have HB5 := Ak (below_step HB4.out hb); have G5 : w.heap.size ≤ g := (by rw [hg5]; exact below_size HB4.out); clear hbox hb hg5; have cg5 : w5.cell? ⟨g, 0, none⟩ = some (.slice none 0 0) := (blk_cell BG5.out 0).trans rfl; have fg5 := blk_frozen BG5.out 0; have c25 : w5.cell? ⟨g2, 0, none⟩ = some (.int .i64 a2_0) := (blk_cell B25.out 0).trans rfl; have d25 : w5.cell? ⟨g2, 1, none⟩ = some (.int .i64 a2_1) := (blk_cell B25.out 1).trans rfl; have c35 : w5.cell? ⟨g3, 0, none⟩ = some (.int .i64 a3_0) := (blk_cell B35.out 0).trans rfl; have d35 : w5.cell? ⟨g3, 1, none⟩ = some (.int .i64 a3_1) := (blk_cell B35.out 1).trans rfl) | ((with_reducible refine gate_dst (N := 19) rfl ?_); refine impl_meet.lit_event ?hg (N := 19) ?hd (c := #[.int .i64 a2_0, .int .i64 a2_1, .int .i64 a3_0, .int .i64 a3_1]) (t := 27) (n := 2) ?hr ?_; (case hd | hg => rfl); (case hr => first | (go_simp; done) | (go_simp; rfl)); intro gl hgl w6 hbox hb; have B06 := Ak (blk_below (blk_far B05.out N05 _) hb); have N06 : g0 ≠ gl := (by rw [hgl]; exact Nat.ne_of_lt (blk_lt (blk_far B05.out N05 (.slice (some ⟨gl0, 0, none⟩) 0 0)))); have B16 := Ak (blk_below (blk_far B15.out N15 _) hb); have N16 : g1 ≠ gl := (by rw [hgl]; exact Nat.ne_of_lt (blk_lt (blk_far B15.out N15 (.slice (some ⟨gl0, 0, none⟩) 0 0)))); have B26 := Ak (blk_below (blk_far B25.out N25 _) hb); have N26 : g2 ≠ gl := (by rw [hgl]; exact Nat.ne_of_lt (blk_lt (blk_far B25.out N25 (.slice (some ⟨gl0, 0, none⟩) 0 0)))); have B36 := Ak (blk_below (blk_far B35.out N35 _) hb); have N36 : g3 ≠ gl := (by rw [hgl]; exact Nat.ne_of_lt (blk_lt (blk_far B35.out N35 (.slice (some ⟨gl0, 0, none⟩) 0 0)))); have BL6 := Ak (blk_below (blk_far BL5.out NL5 (.slice (some ⟨gl0, 0, none⟩) 0 0)) hb); have NL6 : gl0 ≠ gl := (by rw [hgl]; exact Nat.ne_of_lt (blk_lt (blk_far BL5.out NL5 (.slice (some ⟨gl0, 0, none⟩) 0 0)))); have BG6 := Ak (blk_below (blk_put BG5.out 0 (.slice (some ⟨gl0, 0, none⟩) 0 0) rfl) hb); have NG6 : g ≠ gl := (by rw [hgl]; exact Nat.ne_of_lt (blk_lt (blk_put BG5.out 0 (.slice (some ⟨gl0, 0, none⟩) 0 0) rfl))); have BT6 := Ak hbox; have HB6 := Ak (below_step (below_set HB5.out G5) hb); clear hbox hb hgl))
 have HI := Ak (show impl_meet.Inv w w6 g0 g1 g2 g3 g a0_0 a0_1 a1_0 a1_1 a2_0 a2_1 a3_0 a3_1 [g0, g1, g2, g3, g, gl] (.slice (some ⟨gl0, 0, none⟩) 0 0) [] from ⟨B06.out, B16.out, B26.out, B36.out, BG6.out, impl_meet.none_ BL6.out GL ⟨GL, by simp only [List.mem_cons, List.not_mem_nil, or_false, not_or]; exact ⟨N04.symm, N14.symm, N24.symm, N34.symm, NL5, NL6⟩⟩, HB6.out⟩)
 have HLT : Aside0 (∀ k, k = g0 ∨ k = g1 ∨ k = g2 ∨ k = g3 → k ∈ [g0, g1, g2, g3, g, gl] ∧ k ≠ g) := ⟨by
  intro k hk
  rcases hk with rfl | rfl | rfl | rfl
  ·exact ⟨by simp, N05⟩
  ·exact ⟨by simp, N15⟩
  ·exact ⟨by simp, N25⟩
  ·exact ⟨by simp, N35⟩⟩
 have HLN : Aside0 (∀ k, k ∈ [g0, g1, g2, g3, g, gl] → k < w6.heap.size) := ⟨by
  intro k hk; simp only [List.mem_cons, List.not_mem_nil, or_false] at hk
  rcases hk with rfl | rfl | rfl | rfl | rfl | rfl
  ·exact blk_lt B06.out
  ·exact blk_lt B16.out
  ·exact blk_lt B26.out
  ·exact blk_lt B36.out
  ·exact blk_lt BG6.out
  ·exact blk_lt BT6.out⟩
 clear B00 B01 B02 B03 B04 B05 B06 B11 B12 B13 B14 B15 B16 B22 B23 B24 B25 B26 B33 B34 B35 B36 BL4 BL5 BL6 BG5 BG6 HB0 HB1 HB2 HB3 HB4 HB5 N01 N02 N03 N12 N13 N23 N04 N14 N24 N34 N05 N15 N25 N35 N06 N16 N26 N36 NL5 NL6 cg5 fg5 c25 c35 d25 d35 HB6 GL; have HNG := Ak NG6; clear NG6; have HL1g := HNG
 go_loopg [21] 2 (fun gk vx wr => ∃ x1 : Int, vx = .int .i64 x1 ∧ Aside0 (0 ≤ x1 ∧ x1 + gk = 2) ∧ ∃ v1 : Value, Aside0 (impl_meet.Inv w wr g0 g1 g2 g3 g a0_0 a0_1 a1_0 a1_1 a2_0 a2_1 a3_0 a3_1 [g0, g1, g2, g3, g, gl] v1 (impl_meet.ends a0_0 a0_1 a1_0 a1_1 a2_0 a2_1 a3_0 a3_1 [] x1)) ∧ Aside0 ((impl_meet.ends a0_0 a0_1 a1_0 a1_1 a2_0 a2_1 a3_0 a3_1 [] x1).length ≤ [].length + x1) ∧ Aside0 (wr.heap[gl]? = some (.cells #[.int .i64 a2_0, .int .i64 a2_1, .int .i64 a3_0, .int .i64 a3_1] 27 (0, 0))) ∧ Aside0 (∀ k, k ∈ [g0, g1, g2, g3, g, gl] → k < wr.heap.size))
 case atStart => exact ⟨0, rfl, ⟨by omega⟩, _, ⟨by rw [impl_meet.ends_0]; exact HI.out⟩, ⟨by rw [impl_meet.ends_0]; simp⟩, BT6, HLN⟩
 case round =>
  obtain ⟨x1, rfl, HX, v1, HI, HLn, BT, HL⟩ := hrel
  cases gk with
  | succ k1 =>
   have hp : 0 ≤ x1 := by have := HX.out; omega
   have hq : x1 < ((2 : Nat) : Int) := by have := HX.out; omega
   obtain ⟨ad, ead, hx0, hx1⟩ := at_T27 (impl_meet.two BT.out) x1 hp hq; have hq2 : decide (x1 < 2) = true := decide_eq_true (by have := HX.out; omega); have hq3 : (x1 < 2) = True := eq_true (by have := HX.out; omega); have HES := Ak (impl_meet.ends_succ a0_0 a0_1 a1_0 a1_1 a2_0 a2_1 a3_0 a3_1 [] x1 (by have := HX.out; omega) (by have := HX.out; omega)); have hwx : wrap64 (x1 + 1) = x1 + 1 := wrap64_id_ (by have := HX.out; omega) (by have := HX.out; omega); have HWX := Ak hwx; clear hwx; cases ead; simp only [Addr.add_lit, Nat.zero_add] at hx0 hx1; replace hp := eq_true hp; replace hq := eq_true hq; generalize HPX : (rd_T27 [(⟨a2_0, a2_1⟩ : S27), ⟨a3_0, a3_1⟩] x1) = px at hx0 hx1 HES; replace HPX := Ak HPX
   by_cases hon : impl_meet.onW a0_0 a0_1 a1_0 a1_1 px.f0 px.f1 = true
   ·have HON := Ak (impl_meet.on_some a0_0 a0_1 a1_0 a1_1 px.f0 px.f1); rw [hon] at HON HES; clear hon
    go_wp2_with (first | ((with_reducible refine gate_dst (N := 12) rfl ?_); refine box_event ?hg (N := 12) ?hd (cs := #[.int .i64 0, .int .i64 0]) (t := 27) ?hr ?_; (case hd | hg => rfl); (case hr => first | (go_simp; done) | (go_simp; rfl)); intro gp hgp w7 hbox hb; have GP : wr.heap.size ≤ gp := Nat.le_of_eq hgp.symm; have BP := Ak hbox; have HI7 := Ak (HI.out.below hb); have HB7 := Ak hb; have n1 : gp ≠ g0 := Nat.ne_of_gt (Nat.lt_of_lt_of_le (blk_lt HI.out.b0) GP); have n2 : gp ≠ g1 := Nat.ne_of_gt (Nat.lt_of_lt_of_le (blk_lt HI.out.b1) GP); have n3 := n1.symm; have n4 := n2.symm; clear hbox hb hgp; have e1 : w7.cell? ⟨gp, 0, none⟩ = some (.int .i64 0) := (blk_cell BP.out 0).trans rfl; have e2 : w7.cell? ⟨gp, 1, none⟩ = some (.int .i64 0) := (blk_cell BP.out 1).trans rfl; have e3 := blk_frozen BP.out 0; have e4 := blk_frozen BP.out 1; have e5 : w7.cell? ⟨g0, 0, none⟩ = some (.int .i64 a0_0) := (blk_cell HI7.out.b0 0).trans rfl; have e6 : w7.cell? ⟨g0, 1, none⟩ = some (.int .i64 a0_1) := (blk_cell HI7.out.b0 1).trans rfl; have e7 : w7.cell? ⟨g1, 0, none⟩ = some (.int .i64 a1_0) := (blk_cell HI7.out.b1 0).trans rfl; have e8 : w7.cell? ⟨g1, 1, none⟩ = some (.int .i64 a1_1) := (blk_cell HI7.out.b1 1).trans rfl) | ((with_reducible refine gate_callee (f := 68) rfl ?_); refine goesL_ (some 28) rfl rfl Try.func68 (by kernel_rfl) rfl #[.agg #[.int .i64 a0_0, .int .i64 a0_1], .agg #[.int .i64 a1_0, .int .i64 a1_1], .agg #[.int .i64 px.f0, .int .i64 px.f1]] rfl (by (try simp only [List.map_toArray, List.map_cons, List.map_nil]); first | done | rfl | (simp only [List.length_drop, List.length_take]; rfl)) ?_; (with_reducible refine (impl_isOn.calls a0_0 a0_1 a1_0 a1_1 px.f0 px.f1 true _ HON.out).mono ?_); rintro e w8 ⟨rfl, hb⟩; refine ⟨_, rfl, ?_⟩; have BP8 := Ak (blk_below (blk_put (cs' := #[.int .i64 px.f0, .int .i64 px.f1]) (blk_put (cs' := #[.int .i64 px.f0, .int .i64 0]) BP.out 0 _ rfl) 1 _ rfl) hb); have HB8 := Ak (below_step (below_set (below_set HB7.out GP) GP) hb); clear hb; have f1 : w8.cell? ⟨gp, 0, none⟩ = some (.int .i64 px.f0) := (blk_cell BP8.out 0).trans rfl; have f2 : w8.cell? ⟨gp, 1, none⟩ = some (.int .i64 px.f1) := (blk_cell BP8.out 1).trans rfl) | (go_at_call 99; refine (impl_meet_add.calls px.f0 px.f1 g w.heap.size v1 _ (impl_meet.okL w.heap.size [g0, g1, g2, g3, g, gl]) _ (HI.out.below HB8.out).bg (HI.out.below HB8.out).r (fun hk => hk.2 (by simp)) (fun k hk => ⟨Nat.le_trans (below_size (HI.out.below HB8.out).bel) hk, fun hm => Nat.lt_irrefl _ (Nat.lt_of_lt_of_le (HL.out k hm) (Nat.le_trans (below_size HB8.out) hk))⟩) (below_size (HI.out.below HB8.out).bel) G5 ?hl).mono ?_; (case hl => have h1 := HLn.out; have h2 := HX.out; have h3 : (([] : List S27).length : Int) = 0 := rfl; omega); rintro e w9 ⟨rfl, v9, hg9, hr9, hb9, hs9⟩; have HI9 := Ak ((HI.out.below HB8.out).same HLT.out hb9 hg9 hr9 hs9); have HS9 := Ak hs9; have HZ9 := Ak hb9.size; clear hg9 hr9 hb9 hs9))
    go_roundg k1
    case measure => exact Nat.lt_succ_self _
    case rel =>
     refine ⟨wrap64 (x1 + 1), rfl, ⟨by rw [HWX.out]; have := HX.out; omega⟩, v9, ⟨by rw [HWX.out, HES.out]; exact HI9.out⟩, ⟨?_⟩, ⟨?_⟩, ⟨?_⟩⟩
     ·rw [HWX.out, HES.out]; have h1 := HLn.out; have h2 := impl_meet.add_len (impl_meet.ends a0_0 a0_1 a1_0 a1_1 a2_0 a2_1 a3_0 a3_1 [] x1) px.f0 px.f1; simp only [impl_meet.step, if_true]; omega
     ·exact (HS9.out _ (Nat.lt_of_lt_of_le (blk_lt BT.out) (below_size HB8.out)) (by first | exact HL1g.out.symm | exact HL2g.out.symm) (fun hk => hk.2 (by simp))).trans (blk_below BT.out HB8.out)
     ·exact fun k hk => Nat.lt_of_lt_of_le (HL.out k hk) (Nat.le_trans (below_size HB8.out) HZ9.out)
   ·have HON := Ak (impl_meet.on_some a0_0 a0_1 a1_0 a1_1 px.f0 px.f1); replace hon := Bool.eq_false_iff.mpr hon; rw [hon] at HON HES; clear hon
    go_wp2_with (first | ((with_reducible refine gate_dst (N := 12) rfl ?_); refine box_event ?hg (N := 12) ?hd (cs := #[.int .i64 0, .int .i64 0]) (t := 27) ?hr ?_; (case hd | hg => rfl); (case hr => first | (go_simp; done) | (go_simp; rfl)); intro gp hgp w7 hbox hb; have GP : wr.heap.size ≤ gp := Nat.le_of_eq hgp.symm; have BP := Ak hbox; have HI7 := Ak (HI.out.below hb); have HB7 := Ak hb; have n1 : gp ≠ g0 := Nat.ne_of_gt (Nat.lt_of_lt_of_le (blk_lt HI.out.b0) GP); have n2 : gp ≠ g1 := Nat.ne_of_gt (Nat.lt_of_lt_of_le (blk_lt HI.out.b1) GP); have n3 := n1.symm; have n4 := n2.symm; clear hbox hb hgp; have e1 : w7.cell? ⟨gp, 0, none⟩ = some (.int .i64 0) := (blk_cell BP.out 0).trans rfl; have e2 : w7.cell? ⟨gp, 1, none⟩ = some (.int .i64 0) := (blk_cell BP.out 1).trans rfl; have e3 := blk_frozen BP.out 0; have e4 := blk_frozen BP.out 1; have e5 : w7.cell? ⟨g0, 0, none⟩ = some (.int .i64 a0_0) := (blk_cell HI7.out.b0 0).trans rfl; have e6 : w7.cell? ⟨g0, 1, none⟩ = some (.int .i64 a0_1) := (blk_cell HI7.out.b0 1).trans rfl; have e7 : w7.cell? ⟨g1, 0, none⟩ = some (.int .i64 a1_0) := (blk_cell HI7.out.b1 0).trans rfl; have e8 : w7.cell? ⟨g1, 1, none⟩ = some (.int .i64 a1_1) := (blk_cell HI7.out.b1 1).trans rfl) | ((with_reducible refine gate_callee (f := 68) rfl ?_); refine goesL_ (some 28) rfl rfl Try.func68 (by kernel_rfl) rfl #[.agg #[.int .i64 a0_0, .int .i64 a0_1], .agg #[.int .i64 a1_0, .int .i64 a1_1], .agg #[.int .i64 px.f0, .int .i64 px.f1]] rfl (by (try simp only [List.map_toArray, List.map_cons, List.map_nil]); first | done | rfl | (simp only [List.length_drop, List.length_take]; rfl)) ?_; (with_reducible refine (impl_isOn.calls a0_0 a0_1 a1_0 a1_1 px.f0 px.f1 false _ HON.out).mono ?_); rintro e w8 ⟨rfl, hb⟩; refine ⟨_, rfl, ?_⟩; have BP8 := Ak (blk_below (blk_put (cs' := #[.int .i64 px.f0, .int .i64 px.f1]) (blk_put (cs' := #[.int .i64 px.f0, .int .i64 0]) BP.out 0 _ rfl) 1 _ rfl) hb); have HB8 := Ak (below_step (below_set (below_set HB7.out GP) GP) hb); clear hb; have f1 : w8.cell? ⟨gp, 0, none⟩ = some (.int .i64 px.f0) := (blk_cell BP8.out 0).trans rfl; have f2 : w8.cell? ⟨gp, 1, none⟩ = some (.int .i64 px.f1) := (blk_cell BP8.out 1).trans rfl))
    go_roundg k1
    case measure => exact Nat.lt_succ_self _
    case rel =>
     refine ⟨wrap64 (x1 + 1), rfl, ⟨by rw [HWX.out]; have := HX.out; omega⟩, v1, ⟨by rw [HWX.out, HES.out]; exact HI.out.below HB8.out⟩, ⟨?_⟩, ⟨blk_below BT.out HB8.out⟩, ⟨fun k hk => Nat.lt_of_lt_of_le (HL.out k hk) (below_size HB8.out)⟩⟩; rw [HWX.out, HES.out]; have h1 := HLn.out; simp only [impl_meet.step, Bool.false_eq_true, if_false]; omega
  | zero =>
   have hx2 : x1 = 2 := by have := HX.out; omega
   subst hx2; have hq2 : decide ((2 : Int) < 2) = false := rfl; have cc0 : wr.cell? ⟨g0, 0, none⟩ = some (.int .i64 a0_0) := (blk_cell HI.out.b0 0).trans rfl; have ccq0 : wr.cell? ⟨g0, 1, none⟩ = some (.int .i64 a0_1) := (blk_cell HI.out.b0 1).trans rfl; have cc1 : wr.cell? ⟨g1, 0, none⟩ = some (.int .i64 a1_0) := (blk_cell HI.out.b1 0).trans rfl; have ccq1 : wr.cell? ⟨g1, 1, none⟩ = some (.int .i64 a1_1) := (blk_cell HI.out.b1 1).trans rfl
   go_wp2_with (first | ((with_reducible refine gate_dst (N := 35) rfl ?_); refine impl_meet.lit_event ?hg (N := 35) ?hd (c := #[.int .i64 a0_0, .int .i64 a0_1, .int .i64 a1_0, .int .i64 a1_1]) (t := 27) (n := 2) ?hr ?_; (case hd | hg => rfl); (case hr => first | (go_simp; done) | (go_simp; rfl)); intro gl2 hgl w10 hbox hb; have HI2 := Ak ((HI.out.fresh (n := gl2) (Nat.le_of_eq hgl.symm)).below hb); have BT10 := Ak hbox; have HL1g := Ak (show g ≠ gl2 from fun e => Nat.lt_irrefl _ (Nat.lt_of_lt_of_le (HL.out g (by simp)) (Nat.le_of_eq (hgl.symm.trans e.symm)))); have HL10 := Ak (show ∀ k, k ∈ [gl2, g0, g1, g2, g3, g, gl] → k < w10.heap.size from fun k hk => (List.mem_cons.1 hk).elim (fun e => e ▸ blk_lt hbox) (fun h => Nat.lt_of_lt_of_le (HL.out k h) (below_size hb))); clear hbox hb hgl))
   have HLT2 := Ak (show ∀ k, k = g0 ∨ k = g1 ∨ k = g2 ∨ k = g3 → k ∈ [gl2, g0, g1, g2, g3, g, gl] ∧ k ≠ g from fun k hk => ⟨List.mem_cons_of_mem _ (HLT.out k hk).1, (HLT.out k hk).2⟩); have HP2 := Ak (show (impl_meet.ends a0_0 a0_1 a1_0 a1_1 a2_0 a2_1 a3_0 a3_1 [] 2).length ≤ 2 from by have := HLn.out; have h3 : (([] : List S27).length : Int) = 0 := rfl; omega); clear HL HLn BT HI HX HLN cc0 cc1 ccq0 ccq1
   go_loopg [37] 2 (fun gk vx wr => ∃ x2 : Int, vx = .int .i64 x2 ∧ Aside0 (0 ≤ x2 ∧ x2 + gk = 2) ∧ ∃ v2 : Value, Aside0 (impl_meet.Inv w wr g0 g1 g2 g3 g a0_0 a0_1 a1_0 a1_1 a2_0 a2_1 a3_0 a3_1 [gl2, g0, g1, g2, g3, g, gl] v2 (impl_meet.ends a2_0 a2_1 a3_0 a3_1 a0_0 a0_1 a1_0 a1_1 (impl_meet.ends a0_0 a0_1 a1_0 a1_1 a2_0 a2_1 a3_0 a3_1 [] 2) x2)) ∧ Aside0 ((impl_meet.ends a2_0 a2_1 a3_0 a3_1 a0_0 a0_1 a1_0 a1_1 (impl_meet.ends a0_0 a0_1 a1_0 a1_1 a2_0 a2_1 a3_0 a3_1 [] 2) x2).length ≤ (impl_meet.ends a0_0 a0_1 a1_0 a1_1 a2_0 a2_1 a3_0 a3_1 [] 2).length + x2) ∧ Aside0 (wr.heap[gl2]? = some (.cells #[.int .i64 a0_0, .int .i64 a0_1, .int .i64 a1_0, .int .i64 a1_1] 27 (0, 0))) ∧ Aside0 (∀ k, k ∈ [gl2, g0, g1, g2, g3, g, gl] → k < wr.heap.size))
   case atStart => exact ⟨0, rfl, ⟨by omega⟩, _, ⟨by rw [impl_meet.ends_0]; exact HI2.out⟩, ⟨by rw [impl_meet.ends_0]; simp⟩, BT10, HL10⟩
   case round =>
    obtain ⟨x2, rfl, HX, v2, HI, HLn, BT, HL⟩ := hrel
    cases gk with
    | succ k1 =>
     have hp : 0 ≤ x2 := by have := HX.out; omega
     have hq : x2 < ((2 : Nat) : Int) := by have := HX.out; omega
     obtain ⟨ad, ead, hx0, hx1⟩ := at_T27 (impl_meet.two BT.out) x2 hp hq; have hq2 : decide (x2 < 2) = true := decide_eq_true (by have := HX.out; omega); have hq3 : (x2 < 2) = True := eq_true (by have := HX.out; omega); have HES := Ak (impl_meet.ends_succ a2_0 a2_1 a3_0 a3_1 a0_0 a0_1 a1_0 a1_1 (impl_meet.ends a0_0 a0_1 a1_0 a1_1 a2_0 a2_1 a3_0 a3_1 [] 2) x2 (by have := HX.out; omega) (by have := HX.out; omega)); have hwx : wrap64 (x2 + 1) = x2 + 1 := wrap64_id_ (by have := HX.out; omega) (by have := HX.out; omega); have HWX := Ak hwx; clear hwx; cases ead; simp only [Addr.add_lit, Nat.zero_add] at hx0 hx1; replace hp := eq_true hp; replace hq := eq_true hq; generalize HPX : (rd_T27 [(⟨a0_0, a0_1⟩ : S27), ⟨a1_0, a1_1⟩] x2) = px at hx0 hx1 HES; replace HPX := Ak HPX
     by_cases hon : impl_meet.onW a2_0 a2_1 a3_0 a3_1 px.f0 px.f1 = true
     ·have HON := Ak (impl_meet.on_some a2_0 a2_1 a3_0 a3_1 px.f0 px.f1); rw [hon] at HON HES; clear hon
      go_wp2_with (first | ((with_reducible refine gate_dst (N := 14) rfl ?_); refine box_event ?hg (N := 14) ?hd (cs := #[.int .i64 0, .int .i64 0]) (t := 27) ?hr ?_; (case hd | hg => rfl); (case hr => first | (go_simp; done) | (go_simp; rfl)); intro gp hgp w7 hbox hb; have GP : wr.heap.size ≤ gp := Nat.le_of_eq hgp.symm; have BP := Ak hbox; have HI7 := Ak (HI.out.below hb); have HB7 := Ak hb; have n1 : gp ≠ g2 := Nat.ne_of_gt (Nat.lt_of_lt_of_le (blk_lt HI.out.b2) GP); have n2 : gp ≠ g3 := Nat.ne_of_gt (Nat.lt_of_lt_of_le (blk_lt HI.out.b3) GP); have n3 := n1.symm; have n4 := n2.symm; clear hbox hb hgp; have e1 : w7.cell? ⟨gp, 0, none⟩ = some (.int .i64 0) := (blk_cell BP.out 0).trans rfl; have e2 : w7.cell? ⟨gp, 1, none⟩ = some (.int .i64 0) := (blk_cell BP.out 1).trans rfl; have e3 := blk_frozen BP.out 0; have e4 := blk_frozen BP.out 1; have e5 : w7.cell? ⟨g2, 0, none⟩ = some (.int .i64 a2_0) := (blk_cell HI7.out.b2 0).trans rfl; have e6 : w7.cell? ⟨g2, 1, none⟩ = some (.int .i64 a2_1) := (blk_cell HI7.out.b2 1).trans rfl; have e7 : w7.cell? ⟨g3, 0, none⟩ = some (.int .i64 a3_0) := (blk_cell HI7.out.b3 0).trans rfl; have e8 : w7.cell? ⟨g3, 1, none⟩ = some (.int .i64 a3_1) := (blk_cell HI7.out.b3 1).trans rfl) | ((with_reducible refine gate_callee (f := 68) rfl ?_); refine goesL_ (some 44) rfl rfl Try.func68 (by kernel_rfl) rfl #[.agg #[.int .i64 a2_0, .int .i64 a2_1], .agg #[.int .i64 a3_0, .int .i64 a3_1], .agg #[.int .i64 px.f0, .int .i64 px.f1]] rfl (by (try simp only [List.map_toArray, List.map_cons, List.map_nil]); first | done | rfl | (simp only [List.length_drop, List.length_take]; rfl)) ?_; (with_reducible refine (impl_isOn.calls a2_0 a2_1 a3_0 a3_1 px.f0 px.f1 true _ HON.out).mono ?_); rintro e w8 ⟨rfl, hb⟩; refine ⟨_, rfl, ?_⟩; have BP8 := Ak (blk_below (blk_put (cs' := #[.int .i64 px.f0, .int .i64 px.f1]) (blk_put (cs' := #[.int .i64 px.f0, .int .i64 0]) BP.out 0 _ rfl) 1 _ rfl) hb); have HB8 := Ak (below_step (below_set (below_set HB7.out GP) GP) hb); clear hb; have f1 : w8.cell? ⟨gp, 0, none⟩ = some (.int .i64 px.f0) := (blk_cell BP8.out 0).trans rfl; have f2 : w8.cell? ⟨gp, 1, none⟩ = some (.int .i64 px.f1) := (blk_cell BP8.out 1).trans rfl) | (go_at_call 99; refine (impl_meet_add.calls px.f0 px.f1 g w.heap.size v2 _ (impl_meet.okL w.heap.size [gl2, g0, g1, g2, g3, g, gl]) _ (HI.out.below HB8.out).bg (HI.out.below HB8.out).r (fun hk => hk.2 (by simp)) (fun k hk => ⟨Nat.le_trans (below_size (HI.out.below HB8.out).bel) hk, fun hm => Nat.lt_irrefl _ (Nat.lt_of_lt_of_le (HL.out k hm) (Nat.le_trans (below_size HB8.out) hk))⟩) (below_size (HI.out.below HB8.out).bel) G5 ?hl).mono ?_; (case hl => have h1 := HLn.out; have h2 := HX.out; have h3 := HP2.out; omega); rintro e w9 ⟨rfl, v9, hg9, hr9, hb9, hs9⟩; have HI9 := Ak ((HI.out.below HB8.out).same HLT2.out hb9 hg9 hr9 hs9); have HS9 := Ak hs9; have HZ9 := Ak hb9.size; clear hg9 hr9 hb9 hs9))
      go_roundg k1
      case measure => exact Nat.lt_succ_self _
      case rel =>
       refine ⟨wrap64 (x2 + 1), rfl, ⟨by rw [HWX.out]; have := HX.out; omega⟩, v9, ⟨by rw [HWX.out, HES.out]; exact HI9.out⟩, ⟨?_⟩, ⟨?_⟩, ⟨?_⟩⟩
       ·rw [HWX.out, HES.out]; have h1 := HLn.out; have h2 := impl_meet.add_len (impl_meet.ends a2_0 a2_1 a3_0 a3_1 a0_0 a0_1 a1_0 a1_1 (impl_meet.ends a0_0 a0_1 a1_0 a1_1 a2_0 a2_1 a3_0 a3_1 [] 2) x2) px.f0 px.f1; simp only [impl_meet.step, if_true]; omega
       ·exact (HS9.out _ (Nat.lt_of_lt_of_le (blk_lt BT.out) (below_size HB8.out)) (by first | exact HL1g.out.symm | exact HL2g.out.symm) (fun hk => hk.2 (by simp))).trans (blk_below BT.out HB8.out)
       ·exact fun k hk => Nat.lt_of_lt_of_le (HL.out k hk) (Nat.le_trans (below_size HB8.out) HZ9.out)
     ·have HON := Ak (impl_meet.on_some a2_0 a2_1 a3_0 a3_1 px.f0 px.f1); replace hon := Bool.eq_false_iff.mpr hon; rw [hon] at HON HES; clear hon
      go_wp2_with (first | ((with_reducible refine gate_dst (N := 14) rfl ?_); refine box_event ?hg (N := 14) ?hd (cs := #[.int .i64 0, .int .i64 0]) (t := 27) ?hr ?_; (case hd | hg => rfl); (case hr => first | (go_simp; done) | (go_simp; rfl)); intro gp hgp w7 hbox hb; have GP : wr.heap.size ≤ gp := Nat.le_of_eq hgp.symm; have BP := Ak hbox; have HI7 := Ak (HI.out.below hb); have HB7 := Ak hb; have n1 : gp ≠ g2 := Nat.ne_of_gt (Nat.lt_of_lt_of_le (blk_lt HI.out.b2) GP); have n2 : gp ≠ g3 := Nat.ne_of_gt (Nat.lt_of_lt_of_le (blk_lt HI.out.b3) GP); have n3 := n1.symm; have n4 := n2.symm; clear hbox hb hgp; have e1 : w7.cell? ⟨gp, 0, none⟩ = some (.int .i64 0) := (blk_cell BP.out 0).trans rfl; have e2 : w7.cell? ⟨gp, 1, none⟩ = some (.int .i64 0) := (blk_cell BP.out 1).trans rfl; have e3 := blk_frozen BP.out 0; have e4 := blk_frozen BP.out 1; have e5 : w7.cell? ⟨g2, 0, none⟩ = some (.int .i64 a2_0) := (blk_cell HI7.out.b2 0).trans rfl; have e6 : w7.cell? ⟨g2, 1, none⟩ = some (.int .i64 a2_1) := (blk_cell HI7.out.b2 1).trans rfl; have e7 : w7.cell? ⟨g3, 0, none⟩ = some (.int .i64 a3_0) := (blk_cell HI7.out.b3 0).trans rfl; have e8 : w7.cell? ⟨g3, 1, none⟩ = some (.int .i64 a3_1) := (blk_cell HI7.out.b3 1).trans rfl) | ((with_reducible refine gate_callee (f := 68) rfl ?_); refine goesL_ (some 44) rfl rfl Try.func68 (by kernel_rfl) rfl #[.agg #[.int .i64 a2_0, .int .i64 a2_1], .agg #[.int .i64 a3_0, .int .i64 a3_1], .agg #[.int .i64 px.f0, .int .i64 px.f1]] rfl (by (try simp only [List.map_toArray, List.map_cons, List.map_nil]); first | done | rfl | (simp only [List.length_drop, List.length_take]; rfl)) ?_; (with_reducible refine (impl_isOn.calls a2_0 a2_1 a3_0 a3_1 px.f0 px.f1 false _ HON.out).mono ?_); rintro e w8 ⟨rfl, hb⟩; refine ⟨_, rfl, ?_⟩; have BP8 := Ak (blk_below (blk_put (cs' := #[.int .i64 px.f0, .int .i64 px.f1]) (blk_put (cs' := #[.int .i64 px.f0, .int .i64 0]) BP.out 0 _ rfl) 1 _ rfl) hb); have HB8 := Ak (below_step (below_set (below_set HB7.out GP) GP) hb); clear hb; have f1 : w8.cell? ⟨gp, 0, none⟩ = some (.int .i64 px.f0) := (blk_cell BP8.out 0).trans rfl; have f2 : w8.cell? ⟨gp, 1, none⟩ = some (.int .i64 px.f1) := (blk_cell BP8.out 1).trans rfl))
      go_roundg k1
      case measure => exact Nat.lt_succ_self _
      case rel =>
       refine ⟨wrap64 (x2 + 1), rfl, ⟨by rw [HWX.out]; have := HX.out; omega⟩, v2, ⟨by rw [HWX.out, HES.out]; exact HI.out.below HB8.out⟩, ⟨?_⟩, ⟨blk_below BT.out HB8.out⟩, ⟨fun k hk => Nat.lt_of_lt_of_le (HL.out k hk) (below_size HB8.out)⟩⟩; rw [HWX.out, HES.out]; have h1 := HLn.out; simp only [impl_meet.step, Bool.false_eq_true, if_false]; omega
    | zero =>
     have hx2 : x2 = 2 := by have := HX.out; omega
     subst hx2; have hq2 : decide ((2 : Int) < 2) = false := rfl; generalize HYS : (impl_meet.ends a2_0 a2_1 a3_0 a3_1 a0_0 a0_1 a1_0 a1_1 (impl_meet.ends a0_0 a0_1 a1_0 a1_1 a2_0 a2_1 a3_0 a3_1 [] 2) 2) = ys at HI HLn; have HY : impl_meet.all a0_0 a0_1 a1_0 a1_1 a2_0 a2_1 a3_0 a3_1 = ys := HYS; have HF := H.out; unfold impl_meet.f at HF; rw [HY] at HF; clear H HYS HY hq2; obtain ⟨An, cn, hv⟩ := Kd.R_slice HI.out.r; subst hv; have cg : wr.cell? ⟨g, 0, none⟩ = some (.slice An ys.length cn) := (blk_cell HI.out.bg 0).trans rfl
     by_cases k1 : (ys.length : Int) > 1
     ·rw [if_pos k1] at HF; obtain rfl := Option.some.inj HF; have k1b : decide (1 < (ys.length : Int)) = true := decide_eq_true k1; clear k1
      go_wp2
      go_ret
      exact ⟨rfl, HI.out.bel⟩
     ·rw [if_neg k1] at HF; have k1b : decide (1 < (ys.length : Int)) = false := decide_eq_false k1; clear k1
      by_cases k2 : (ys.length : Int) = 1
      ·rw [if_pos k2] at HF; obtain rfl := Option.some.inj HF; have k2b : ((ys.length : Int) == 1) = true := beq_iff_eq.mpr k2; clear k2
       go_wp2
       go_ret
       exact ⟨rfl, HI.out.bel⟩
      ·rw [if_neg k2] at HF; have k2b : ((ys.length : Int) == 1) = false := beq_eq_false_iff_ne.mpr k2; clear k2; replace HF := Option.bind_eq_some_iff.mp HF; obtain ⟨x1, Hx1, HF⟩ := HF; replace Hx1 := Ak Hx1; replace HF := Option.bind_eq_some_iff.mp HF; obtain ⟨s1, Hs1, HF⟩ := HF; replace Hs1 := Ak Hs1; replace HF := Option.bind_eq_some_iff.mp HF; obtain ⟨x2, Hx2, HF⟩ := HF; replace Hx2 := Ak Hx2; replace HF := Option.bind_eq_some_iff.mp HF; obtain ⟨s2, Hs2, HF⟩ := HF; replace Hs2 := Ak Hs2
       by_cases k3 : wrap64 (s1 * s2) < 0
       ·rw [if_pos k3] at HF; have k3b : decide (wrap64 (s1 * s2) < 0) = true := decide_eq_true k3; clear k3; replace HF := Option.bind_eq_some_iff.mp HF; obtain ⟨x3, Hx3, HF⟩ := HF; replace Hx3 := Ak Hx3; replace HF := Option.bind_eq_some_iff.mp HF; obtain ⟨s3, Hs3, HF⟩ := HF; replace Hs3 := Ak Hs3; replace HF := Option.bind_eq_some_iff.mp HF; obtain ⟨x4, Hx4, HF⟩ := HF; replace Hx4 := Ak Hx4; replace HF := Option.bind_eq_some_iff.mp HF; obtain ⟨s4, Hs4, HF⟩ := HF; replace Hs4 := Ak Hs4
        by_cases k4 : wrap64 (s3 * s4) < 0
        ·rw [if_pos k4] at HF; obtain rfl := Option.some.inj HF; have k4b : decide (wrap64 (s3 * s4) < 0) = true := decide_eq_true k4; clear k4 HF
         go_wp2
         replace HI := Ak (HI.out.below (below_drew1 (Below.refl wr.heap.size wr))); refine start_ (n := 27) (S := fun w' => w'.cell? ⟨g0, 0, none⟩ = some (.int .i64 a0_0) ∧ w'.cell? ⟨g0, 1, none⟩ = some (.int .i64 a0_1) ∧ w'.cell? ⟨g1, 0, none⟩ = some (.int .i64 a1_0) ∧ w'.cell? ⟨g1, 1, none⟩ = some (.int .i64 a1_1) ∧ w'.cell? ⟨g2, 0, none⟩ = some (.int .i64 a2_0) ∧ w'.cell? ⟨g2, 1, none⟩ = some (.int .i64 a2_1) ∧ w'.cell? ⟨g3, 0, none⟩ = some (.int .i64 a3_0) ∧ w'.cell? ⟨g3, 1, none⟩ = some (.int .i64 a3_1)) (ds := []) #[F,F,F,F,F,F,F,F,F,F,F,F,F,F,F,F,F,F,F,F,F,F,F,F,F,F,F] (by kernel_rfl) rfl rfl ⟨(blk_cell HI.out.b0 0).trans rfl, (blk_cell HI.out.b0 1).trans rfl, (blk_cell HI.out.b1 0).trans rfl, (blk_cell HI.out.b1 1).trans rfl, (blk_cell HI.out.b2 0).trans rfl, (blk_cell HI.out.b2 1).trans rfl, (blk_cell HI.out.b3 0).trans rfl, (blk_cell HI.out.b3 1).trans rfl⟩ (fun hHeld => ?_); generalize wr.drew = wd at HI hHeld ⊢; clear cg; refine take_ (i := 0) (N := some 58) (v := ?_) (a' := ?_) #[T,F,F,F,F,F,F,F,F,F,F,F,F,F,F,F,F,F,F,F,F,F,F,F,F,F,F] rfl rfl (by kernel_rfl) (fun _ _ _ h => h) (Or.inl ⟨by rfl, ?_⟩) hHeld ?_ ?_; rotate_left
         ·rintro w' ⟨q0, q1, q2, q3, q4, q5, q6, q7⟩; go_simp; with_reducible rfl
         rotate_left
         ·simp only [Act.put, sA, sB, sC, sD, sE]; rfl
         refine take_ (i := 1) (N := some 59) (v := ?_) (a' := ?_) #[T,T,F,F,F,F,F,F,F,F,F,F,F,F,F,F,F,F,F,F,F,F,F,F,F,F,F] rfl rfl (by kernel_rfl) (fun _ _ _ h => h) (Or.inl ⟨by rfl, ?_⟩) hHeld ?_ ?_; rotate_left
         ·rintro w' ⟨q0, q1, q2, q3, q4, q5, q6, q7⟩; go_simp; with_reducible rfl
         rotate_left
         ·simp only [Act.put, sA, sB, sC, sD, sE]; rfl
         refine take_ (i := 2) (N := some 60) (v := ?_) (a' := ?_) #[T,T,T,F,F,F,F,F,F,F,F,F,F,F,F,F,F,F,F,F,F,F,F,F,F,F,F] rfl rfl (by kernel_rfl) (fun _ _ _ h => h) (Or.inl ⟨by rfl, ?_⟩) hHeld ?_ ?_; rotate_left
         ·rintro w' ⟨q0, q1, q2, q3, q4, q5, q6, q7⟩; go_simp; with_reducible rfl
         rotate_left
         ·simp only [Act.put, sA, sB, sC, sD, sE]; rfl
         refine take_ (i := 5) (N := some 63) (v := ?_) (a' := ?_) #[T,T,T,F,F,T,F,F,F,F,F,F,F,F,F,F,F,F,F,F,F,F,F,F,F,F,F] rfl rfl (by kernel_rfl) (fun _ _ _ h => h) (Or.inl ⟨by rfl, ?_⟩) hHeld ?_ ?_; rotate_left
         ·rintro w' ⟨q0, q1, q2, q3, q4, q5, q6, q7⟩; go_simp; with_reducible rfl
         rotate_left
         ·simp only [Act.put, sA, sB, sC, sD, sE]; rfl
         refine take_ (i := 6) (N := some 64) (v := ?_) (a' := ?_) #[T,T,T,F,F,T,T,F,F,F,F,F,F,F,F,F,F,F,F,F,F,F,F,F,F,F,F] rfl rfl (by kernel_rfl) (fun _ _ _ h => h) (Or.inl ⟨by rfl, ?_⟩) hHeld ?_ ?_; rotate_left
         ·rintro w' ⟨q0, q1, q2, q3, q4, q5, q6, q7⟩; go_simp; with_reducible rfl
         rotate_left
         ·simp only [Act.put, sA, sB, sC, sD, sE]; rfl
         refine take_ (i := 7) (N := some 65) (v := ?_) (a' := ?_) #[T,T,T,F,F,T,T,T,F,F,F,F,F,F,F,F,F,F,F,F,F,F,F,F,F,F,F] rfl rfl (by kernel_rfl) (fun _ _ _ h => h) (Or.inl ⟨by rfl, ?_⟩) hHeld ?_ ?_; rotate_left
         ·rintro w' ⟨q0, q1, q2, q3, q4, q5, q6, q7⟩; go_simp; with_reducible rfl
         rotate_left
         ·simp only [Act.put, sA, sB, sC, sD, sE]; rfl
         refine one_ (i := 3) (N := some 61) #[T,T,T,T,F,T,T,T,F,F,F,F,F,F,F,F,F,F,F,F,F,F,F,F,F,F,F] rfl rfl (by kernel_rfl) (by decide) (fun K hK => ?_); refine goes_ Try.func66 (by kernel_rfl) rfl #[.agg #[.int .i64 a0_0, .int .i64 a0_1], .agg #[.int .i64 a1_0, .int .i64 a1_1], .agg #[.int .i64 a2_0, .int .i64 a2_1]] (by rfl) rfl rfl (by (try simp only [List.map_toArray, List.map_cons, List.map_nil]); first | done | rfl) ?_
         with_reducible refine (impl_cross.calls a0_0 a0_1 a1_0 a1_1 a2_0 a2_1 x1 _ Hx1.out).mono ?_
         rintro e wn ⟨rfl, hb⟩; refine ⟨_, rfl, ?_⟩; replace HI := Ak (HI.out.below hb); clear hHeld; refine hK.out _ _ ⟨(blk_cell HI.out.b0 0).trans rfl, (blk_cell HI.out.b0 1).trans rfl, (blk_cell HI.out.b1 0).trans rfl, (blk_cell HI.out.b1 1).trans rfl, (blk_cell HI.out.b2 0).trans rfl, (blk_cell HI.out.b2 1).trans rfl, (blk_cell HI.out.b3 0).trans rfl, (blk_cell HI.out.b3 1).trans rfl⟩ (fun hHeld => ?_); clear hK K hb; refine norm_ (a' := ?_) ?_ ?_; rotate_left
         ·show Act.put _ (some 61) _ = _; simp only [Act.put, sA, sB, sC, sD, sE]; rfl
         refine one_ (i := 4) (N := some 62) #[T,T,T,T,T,T,T,T,F,F,F,F,F,F,F,F,F,F,F,F,F,F,F,F,F,F,F] rfl rfl (by kernel_rfl) (by decide) (fun K hK => ?_); refine goes_ Try.func67 (by kernel_rfl) rfl #[.int .i64 x1] (by rfl) rfl rfl (by (try simp only [List.map_toArray, List.map_cons, List.map_nil]); first | done | rfl) ?_
         with_reducible refine (impl_sign.calls x1 s1 _ Hs1.out).mono ?_
         rintro e wn ⟨rfl, hd⟩; have hb := hd.below; refine ⟨_, rfl, ?_⟩; replace HI := Ak (HI.out.below hb); clear hHeld; refine hK.out _ _ ⟨(blk_cell HI.out.b0 0).trans rfl, (blk_cell HI.out.b0 1).trans rfl, (blk_cell HI.out.b1 0).trans rfl, (blk_cell HI.out.b1 1).trans rfl, (blk_cell HI.out.b2 0).trans rfl, (blk_cell HI.out.b2 1).trans rfl, (blk_cell HI.out.b3 0).trans rfl, (blk_cell HI.out.b3 1).trans rfl⟩ (fun hHeld => ?_); clear hK K hb hd; refine norm_ (a' := ?_) ?_ ?_; rotate_left
         ·show Act.put _ (some 62) _ = _; simp only [Act.put, sA, sB, sC, sD, sE]; rfl
         refine one_ (i := 8) (N := some 66) #[T,T,T,T,T,T,T,T,T,F,F,F,F,F,F,F,F,F,F,F,F,F,F,F,F,F,F] rfl rfl (by kernel_rfl) (by decide) (fun K hK => ?_); refine goes_ Try.func66 (by kernel_rfl) rfl #[.agg #[.int .i64 a0_0, .int .i64 a0_1], .agg #[.int .i64 a1_0, .int .i64 a1_1], .agg #[.int .i64 a3_0, .int .i64 a3_1]] (by rfl) rfl rfl (by (try simp only [List.map_toArray, List.map_cons, List.map_nil]); first | done | rfl) ?_
         with_reducible refine (impl_cross.calls a0_0 a0_1 a1_0 a1_1 a3_0 a3_1 x2 _ Hx2.out).mono ?_
         rintro e wn ⟨rfl, hb⟩; refine ⟨_, rfl, ?_⟩; replace HI := Ak (HI.out.below hb); clear hHeld; refine hK.out _ _ ⟨(blk_cell HI.out.b0 0).trans rfl, (blk_cell HI.out.b0 1).trans rfl, (blk_cell HI.out.b1 0).trans rfl, (blk_cell HI.out.b1 1).trans rfl, (blk_cell HI.out.b2 0).trans rfl, (blk_cell HI.out.b2 1).trans rfl, (blk_cell HI.out.b3 0).trans rfl, (blk_cell HI.out.b3 1).trans rfl⟩ (fun hHeld => ?_); clear hK K hb; refine norm_ (a' := ?_) ?_ ?_; rotate_left
         ·show Act.put _ (some 66) _ = _; simp only [Act.put, sA, sB, sC, sD, sE]; rfl
         refine one_ (i := 9) (N := some 67) #[T,T,T,T,T,T,T,T,T,T,F,F,F,F,F,F,F,F,F,F,F,F,F,F,F,F,F] rfl rfl (by kernel_rfl) (by decide) (fun K hK => ?_); refine goes_ Try.func67 (by kernel_rfl) rfl #[.int .i64 x2] (by rfl) rfl rfl (by (try simp only [List.map_toArray, List.map_cons, List.map_nil]); first | done | rfl) ?_
         with_reducible refine (impl_sign.calls x2 s2 _ Hs2.out).mono ?_
         rintro e wn ⟨rfl, hd⟩; have hb := hd.below; refine ⟨_, rfl, ?_⟩; replace HI := Ak (HI.out.below hb); clear hHeld; refine hK.out _ _ ⟨(blk_cell HI.out.b0 0).trans rfl, (blk_cell HI.out.b0 1).trans rfl, (blk_cell HI.out.b1 0).trans rfl, (blk_cell HI.out.b1 1).trans rfl, (blk_cell HI.out.b2 0).trans rfl, (blk_cell HI.out.b2 1).trans rfl, (blk_cell HI.out.b3 0).trans rfl, (blk_cell HI.out.b3 1).trans rfl⟩ (fun hHeld => ?_); clear hK K hb hd; refine norm_ (a' := ?_) ?_ ?_; rotate_left
         ·show Act.put _ (some 67) _ = _; simp only [Act.put, sA, sB, sC, sD, sE]; rfl
         refine pure_ (i := 10) (N := some 68) (v := ?_) (a' := ?_) #[T,T,T,T,T,T,T,T,T,T,T,F,F,F,F,F,F,F,F,F,F,F,F,F,F,F,F] rfl rfl (by kernel_rfl) (fun _ _ _ h => h) (Or.inl ⟨by rfl, ?_⟩) ?_ ?_; rotate_left
         ·intro w'; go_simp; with_reducible rfl
         rotate_left
         ·simp only [Act.put, sA, sB, sC, sD, sE]; rfl
         refine pure_ (i := 11) (N := some 69) (v := ?_) (a' := ?_) #[T,T,T,T,T,T,T,T,T,T,T,T,F,F,F,F,F,F,F,F,F,F,F,F,F,F,F] rfl rfl (by kernel_rfl) (fun _ _ _ h => h) (Or.inl ⟨by rfl, ?_⟩) ?_ ?_; rotate_left
         ·intro w'; go_simp; with_reducible rfl
         rotate_left
         ·simp only [Act.put, sA, sB, sC, sD, sE]; rfl
         refine pure_ (i := 12) (N := some 70) (v := ?_) (a' := ?_) #[T,T,T,T,T,T,T,T,T,T,T,T,T,F,F,F,F,F,F,F,F,F,F,F,F,F,F] rfl rfl (by kernel_rfl) (fun _ _ _ h => h) (Or.inl ⟨by rfl, ?_⟩) ?_ ?_; rotate_left
         ·intro w'; go_simp; with_reducible rfl
         rotate_left
         ·simp only [Act.put, sA, sB, sC, sD, sE]; rfl
         refine take_ (i := 13) (N := some 71) (v := ?_) (a' := ?_) #[T,T,T,T,T,T,T,T,T,T,T,T,T,T,F,F,F,F,F,F,F,F,F,F,F,F,F] rfl rfl (by kernel_rfl) (fun _ _ _ h => h) (Or.inl ⟨by rfl, ?_⟩) hHeld ?_ ?_; rotate_left
         ·rintro w' ⟨q0, q1, q2, q3, q4, q5, q6, q7⟩; go_simp; with_reducible rfl
         rotate_left
         ·simp only [Act.put, sA, sB, sC, sD, sE]; rfl
         refine take_ (i := 14) (N := some 72) (v := ?_) (a' := ?_) #[T,T,T,T,T,T,T,T,T,T,T,T,T,T,T,F,F,F,F,F,F,F,F,F,F,F,F] rfl rfl (by kernel_rfl) (fun _ _ _ h => h) (Or.inl ⟨by rfl, ?_⟩) hHeld ?_ ?_; rotate_left
         ·rintro w' ⟨q0, q1, q2, q3, q4, q5, q6, q7⟩; go_simp; with_reducible rfl
         rotate_left
         ·simp only [Act.put, sA, sB, sC, sD, sE]; rfl
         refine take_ (i := 15) (N := some 73) (v := ?_) (a' := ?_) #[T,T,T,T,T,T,T,T,T,T,T,T,T,T,T,T,F,F,F,F,F,F,F,F,F,F,F] rfl rfl (by kernel_rfl) (fun _ _ _ h => h) (Or.inl ⟨by rfl, ?_⟩) hHeld ?_ ?_; rotate_left
         ·rintro w' ⟨q0, q1, q2, q3, q4, q5, q6, q7⟩; go_simp; with_reducible rfl
         rotate_left
         ·simp only [Act.put, sA, sB, sC, sD, sE]; rfl
         refine take_ (i := 18) (N := some 76) (v := ?_) (a' := ?_) #[T,T,T,T,T,T,T,T,T,T,T,T,T,T,T,T,F,F,T,F,F,F,F,F,F,F,F] rfl rfl (by kernel_rfl) (fun _ _ _ h => h) (Or.inl ⟨by rfl, ?_⟩) hHeld ?_ ?_; rotate_left
         ·rintro w' ⟨q0, q1, q2, q3, q4, q5, q6, q7⟩; go_simp; with_reducible rfl
         rotate_left
         ·simp only [Act.put, sA, sB, sC, sD, sE]; rfl
         refine take_ (i := 19) (N := some 77) (v := ?_) (a' := ?_) #[T,T,T,T,T,T,T,T,T,T,T,T,T,T,T,T,F,F,T,T,F,F,F,F,F,F,F] rfl rfl (by kernel_rfl) (fun _ _ _ h => h) (Or.inl ⟨by rfl, ?_⟩) hHeld ?_ ?_; rotate_left
         ·rintro w' ⟨q0, q1, q2, q3, q4, q5, q6, q7⟩; go_simp; with_reducible rfl
         rotate_left
         ·simp only [Act.put, sA, sB, sC, sD, sE]; rfl
         refine take_ (i := 20) (N := some 78) (v := ?_) (a' := ?_) #[T,T,T,T,T,T,T,T,T,T,T,T,T,T,T,T,F,F,T,T,T,F,F,F,F,F,F] rfl rfl (by kernel_rfl) (fun _ _ _ h => h) (Or.inl ⟨by rfl, ?_⟩) hHeld ?_ ?_; rotate_left
         ·rintro w' ⟨q0, q1, q2, q3, q4, q5, q6, q7⟩; go_simp; with_reducible rfl
         rotate_left
         ·simp only [Act.put, sA, sB, sC, sD, sE]; rfl
         refine one_ (i := 16) (N := some 74) #[T,T,T,T,T,T,T,T,T,T,T,T,T,T,T,T,T,F,T,T,T,F,F,F,F,F,F] rfl rfl (by kernel_rfl) (by decide) (fun K hK => ?_); refine goes_ Try.func66 (by kernel_rfl) rfl #[.agg #[.int .i64 a2_0, .int .i64 a2_1], .agg #[.int .i64 a3_0, .int .i64 a3_1], .agg #[.int .i64 a0_0, .int .i64 a0_1]] (by rfl) rfl rfl (by (try simp only [List.map_toArray, List.map_cons, List.map_nil]); first | done | rfl) ?_
         with_reducible refine (impl_cross.calls a2_0 a2_1 a3_0 a3_1 a0_0 a0_1 x3 _ Hx3.out).mono ?_
         rintro e wn ⟨rfl, hb⟩; refine ⟨_, rfl, ?_⟩; replace HI := Ak (HI.out.below hb); clear hHeld; refine hK.out _ _ ⟨(blk_cell HI.out.b0 0).trans rfl, (blk_cell HI.out.b0 1).trans rfl, (blk_cell HI.out.b1 0).trans rfl, (blk_cell HI.out.b1 1).trans rfl, (blk_cell HI.out.b2 0).trans rfl, (blk_cell HI.out.b2 1).trans rfl, (blk_cell HI.out.b3 0).trans rfl, (blk_cell HI.out.b3 1).trans rfl⟩ (fun hHeld => ?_); clear hK K hb; refine norm_ (a' := ?_) ?_ ?_; rotate_left
         ·show Act.put _ (some 74) _ = _; simp only [Act.put, sA, sB, sC, sD, sE]; rfl
         refine one_ (i := 17) (N := some 75) #[T,T,T,T,T,T,T,T,T,T,T,T,T,T,T,T,T,T,T,T,T,F,F,F,F,F,F] rfl rfl (by kernel_rfl) (by decide) (fun K hK => ?_); refine goes_ Try.func67 (by kernel_rfl) rfl #[.int .i64 x3] (by rfl) rfl rfl (by (try simp only [List.map_toArray, List.map_cons, List.map_nil]); first | done | rfl) ?_
         with_reducible refine (impl_sign.calls x3 s3 _ Hs3.out).mono ?_
         rintro e wn ⟨rfl, hd⟩; have hb := hd.below; refine ⟨_, rfl, ?_⟩; replace HI := Ak (HI.out.below hb); clear hHeld; refine hK.out _ _ ⟨(blk_cell HI.out.b0 0).trans rfl, (blk_cell HI.out.b0 1).trans rfl, (blk_cell HI.out.b1 0).trans rfl, (blk_cell HI.out.b1 1).trans rfl, (blk_cell HI.out.b2 0).trans rfl, (blk_cell HI.out.b2 1).trans rfl, (blk_cell HI.out.b3 0).trans rfl, (blk_cell HI.out.b3 1).trans rfl⟩ (fun hHeld => ?_); clear hK K hb hd; refine norm_ (a' := ?_) ?_ ?_; rotate_left
         ·show Act.put _ (some 75) _ = _; simp only [Act.put, sA, sB, sC, sD, sE]; rfl
         refine one_ (i := 21) (N := some 79) #[T,T,T,T,T,T,T,T,T,T,T,T,T,T,T,T,T,T,T,T,T,T,F,F,F,F,F] rfl rfl (by kernel_rfl) (by decide) (fun K hK => ?_); refine goes_ Try.func66 (by kernel_rfl) rfl #[.agg #[.int .i64 a2_0, .int .i64 a2_1], .agg #[.int .i64 a3_0, .int .i64 a3_1], .agg #[.int .i64 a1_0, .int .i64 a1_1]] (by rfl) rfl rfl (by (try simp only [List.map_toArray, List.map_cons, List.map_nil]); first | done | rfl) ?_
         with_reducible refine (impl_cross.calls a2_0 a2_1 a3_0 a3_1 a1_0 a1_1 x4 _ Hx4.out).mono ?_
         rintro e wn ⟨rfl, hb⟩; refine ⟨_, rfl, ?_⟩; replace HI := Ak (HI.out.below hb); clear hHeld; refine hK.out _ _ ⟨(blk_cell HI.out.b0 0).trans rfl, (blk_cell HI.out.b0 1).trans rfl, (blk_cell HI.out.b1 0).trans rfl, (blk_cell HI.out.b1 1).trans rfl, (blk_cell HI.out.b2 0).trans rfl, (blk_cell HI.out.b2 1).trans rfl, (blk_cell HI.out.b3 0).trans rfl, (blk_cell HI.out.b3 1).trans rfl⟩ (fun hHeld => ?_); clear hK K hb; refine norm_ (a' := ?_) ?_ ?_; rotate_left
         ·show Act.put _ (some 79) _ = _; simp only [Act.put, sA, sB, sC, sD, sE]; rfl
         refine one_ (i := 22) (N := some 80) #[T,T,T,T,T,T,T,T,T,T,T,T,T,T,T,T,T,T,T,T,T,T,T,F,F,F,F] rfl rfl (by kernel_rfl) (by decide) (fun K hK => ?_); refine goes_ Try.func67 (by kernel_rfl) rfl #[.int .i64 x4] (by rfl) rfl rfl (by (try simp only [List.map_toArray, List.map_cons, List.map_nil]); first | done | rfl) ?_
         with_reducible refine (impl_sign.calls x4 s4 _ Hs4.out).mono ?_
         rintro e wn ⟨rfl, hd⟩; have hb := hd.below; refine ⟨_, rfl, ?_⟩; replace HI := Ak (HI.out.below hb); clear hHeld; refine hK.out _ _ ⟨(blk_cell HI.out.b0 0).trans rfl, (blk_cell HI.out.b0 1).trans rfl, (blk_cell HI.out.b1 0).trans rfl, (blk_cell HI.out.b1 1).trans rfl, (blk_cell HI.out.b2 0).trans rfl, (blk_cell HI.out.b2 1).trans rfl, (blk_cell HI.out.b3 0).trans rfl, (blk_cell HI.out.b3 1).trans rfl⟩ (fun hHeld => ?_); clear hK K hb hd; refine norm_ (a' := ?_) ?_ ?_; rotate_left
         ·show Act.put _ (some 80) _ = _; simp only [Act.put, sA, sB, sC, sD, sE]; rfl
         refine pure_ (i := 23) (N := some 81) (v := ?_) (a' := ?_) #[T,T,T,T,T,T,T,T,T,T,T,T,T,T,T,T,T,T,T,T,T,T,T,T,F,F,F] rfl rfl (by kernel_rfl) (fun _ _ _ h => h) (Or.inl ⟨by rfl, ?_⟩) ?_ ?_; rotate_left
         ·intro w'; go_simp; with_reducible rfl
         rotate_left
         ·simp only [Act.put, sA, sB, sC, sD, sE]; rfl
         refine pure_ (i := 24) (N := some 82) (v := ?_) (a' := ?_) #[T,T,T,T,T,T,T,T,T,T,T,T,T,T,T,T,T,T,T,T,T,T,T,T,T,F,F] rfl rfl (by kernel_rfl) (fun _ _ _ h => h) (Or.inl ⟨by rfl, ?_⟩) ?_ ?_; rotate_left
         ·intro w'; go_simp; with_reducible rfl
         rotate_left
         ·simp only [Act.put, sA, sB, sC, sD, sE]; rfl
         refine pure_ (i := 25) (N := some 83) (v := ?_) (a' := ?_) #[T,T,T,T,T,T,T,T,T,T,T,T,T,T,T,T,T,T,T,T,T,T,T,T,T,T,F] rfl rfl (by kernel_rfl) (fun _ _ _ h => h) (Or.inl ⟨by rfl, ?_⟩) ?_ ?_; rotate_left
         ·intro w'; go_simp; with_reducible rfl
         rotate_left
         ·simp only [Act.put, sA, sB, sC, sD, sE]; rfl
         refine pure_ (i := 26) (N := some 57) (v := ?_) (a' := ?_) #[T,T,T,T,T,T,T,T,T,T,T,T,T,T,T,T,T,T,T,T,T,T,T,T,T,T,T] rfl rfl (by kernel_rfl) (fun _ _ _ h => h) (Or.inl ⟨by rfl, ?_⟩) ?_ ?_; rotate_left
         ·intro w'; go_simp; with_reducible rfl
         rotate_left
         ·simp only [Act.put, sA, sB, sC, sD, sE]; rfl
         refine done_ (by kernel_rfl) ?_
         try go_wp2
         go_ret
         exact ⟨rfl, HI.out.bel⟩
        ·rw [if_neg k4] at HF; obtain rfl := Option.some.inj HF; have k4b : decide (wrap64 (s3 * s4) < 0) = false := decide_eq_false k4; clear k4 HF
         go_wp2
         replace HI := Ak (HI.out.below (below_drew1 (Below.refl wr.heap.size wr))); refine start_ (n := 27) (S := fun w' => w'.cell? ⟨g0, 0, none⟩ = some (.int .i64 a0_0) ∧ w'.cell? ⟨g0, 1, none⟩ = some (.int .i64 a0_1) ∧ w'.cell? ⟨g1, 0, none⟩ = some (.int .i64 a1_0) ∧ w'.cell? ⟨g1, 1, none⟩ = some (.int .i64 a1_1) ∧ w'.cell? ⟨g2, 0, none⟩ = some (.int .i64 a2_0) ∧ w'.cell? ⟨g2, 1, none⟩ = some (.int .i64 a2_1) ∧ w'.cell? ⟨g3, 0, none⟩ = some (.int .i64 a3_0) ∧ w'.cell? ⟨g3, 1, none⟩ = some (.int .i64 a3_1)) (ds := []) #[F,F,F,F,F,F,F,F,F,F,F,F,F,F,F,F,F,F,F,F,F,F,F,F,F,F,F] (by kernel_rfl) rfl rfl ⟨(blk_cell HI.out.b0 0).trans rfl, (blk_cell HI.out.b0 1).trans rfl, (blk_cell HI.out.b1 0).trans rfl, (blk_cell HI.out.b1 1).trans rfl, (blk_cell HI.out.b2 0).trans rfl, (blk_cell HI.out.b2 1).trans rfl, (blk_cell HI.out.b3 0).trans rfl, (blk_cell HI.out.b3 1).trans rfl⟩ (fun hHeld => ?_); generalize wr.drew = wd at HI hHeld ⊢; clear cg; refine take_ (i := 0) (N := some 58) (v := ?_) (a' := ?_) #[T,F,F,F,F,F,F,F,F,F,F,F,F,F,F,F,F,F,F,F,F,F,F,F,F,F,F] rfl rfl (by kernel_rfl) (fun _ _ _ h => h) (Or.inl ⟨by rfl, ?_⟩) hHeld ?_ ?_; rotate_left
         ·rintro w' ⟨q0, q1, q2, q3, q4, q5, q6, q7⟩; go_simp; with_reducible rfl
         rotate_left
         ·simp only [Act.put, sA, sB, sC, sD, sE]; rfl
         refine take_ (i := 1) (N := some 59) (v := ?_) (a' := ?_) #[T,T,F,F,F,F,F,F,F,F,F,F,F,F,F,F,F,F,F,F,F,F,F,F,F,F,F] rfl rfl (by kernel_rfl) (fun _ _ _ h => h) (Or.inl ⟨by rfl, ?_⟩) hHeld ?_ ?_; rotate_left
         ·rintro w' ⟨q0, q1, q2, q3, q4, q5, q6, q7⟩; go_simp; with_reducible rfl
         rotate_left
         ·simp only [Act.put, sA, sB, sC, sD, sE]; rfl
         refine take_ (i := 2) (N := some 60) (v := ?_) (a' := ?_) #[T,T,T,F,F,F,F,F,F,F,F,F,F,F,F,F,F,F,F,F,F,F,F,F,F,F,F] rfl rfl (by kernel_rfl) (fun _ _ _ h => h) (Or.inl ⟨by rfl, ?_⟩) hHeld ?_ ?_; rotate_left
         ·rintro w' ⟨q0, q1, q2, q3, q4, q5, q6, q7⟩; go_simp; with_reducible rfl
         rotate_left
         ·simp only [Act.put, sA, sB, sC, sD, sE]; rfl
         refine take_ (i := 5) (N := some 63) (v := ?_) (a' := ?_) #[T,T,T,F,F,T,F,F,F,F,F,F,F,F,F,F,F,F,F,F,F,F,F,F,F,F,F] rfl rfl (by kernel_rfl) (fun _ _ _ h => h) (Or.inl ⟨by rfl, ?_⟩) hHeld ?_ ?_; rotate_left
         ·rintro w' ⟨q0, q1, q2, q3, q4, q5, q6, q7⟩; go_simp; with_reducible rfl
         rotate_left
         ·simp only [Act.put, sA, sB, sC, sD, sE]; rfl
         refine take_ (i := 6) (N := some 64) (v := ?_) (a' := ?_) #[T,T,T,F,F,T,T,F,F,F,F,F,F,F,F,F,F,F,F,F,F,F,F,F,F,F,F] rfl rfl (by kernel_rfl) (fun _ _ _ h => h) (Or.inl ⟨by rfl, ?_⟩) hHeld ?_ ?_; rotate_left
         ·rintro w' ⟨q0, q1, q2, q3, q4, q5, q6, q7⟩; go_simp; with_reducible rfl
         rotate_left
         ·simp only [Act.put, sA, sB, sC, sD, sE]; rfl
         refine take_ (i := 7) (N := some 65) (v := ?_) (a' := ?_) #[T,T,T,F,F,T,T,T,F,F,F,F,F,F,F,F,F,F,F,F,F,F,F,F,F,F,F] rfl rfl (by kernel_rfl) (fun _ _ _ h => h) (Or.inl ⟨by rfl, ?_⟩) hHeld ?_ ?_; rotate_left
         ·rintro w' ⟨q0, q1, q2, q3, q4, q5, q6, q7⟩; go_simp; with_reducible rfl
         rotate_left
         ·simp only [Act.put, sA, sB, sC, sD, sE]; rfl
         refine one_ (i := 3) (N := some 61) #[T,T,T,T,F,T,T,T,F,F,F,F,F,F,F,F,F,F,F,F,F,F,F,F,F,F,F] rfl rfl (by kernel_rfl) (by decide) (fun K hK => ?_); refine goes_ Try.func66 (by kernel_rfl) rfl #[.agg #[.int .i64 a0_0, .int .i64 a0_1], .agg #[.int .i64 a1_0, .int .i64 a1_1], .agg #[.int .i64 a2_0, .int .i64 a2_1]] (by rfl) rfl rfl (by (try simp only [List.map_toArray, List.map_cons, List.map_nil]); first | done | rfl) ?_
         with_reducible refine (impl_cross.calls a0_0 a0_1 a1_0 a1_1 a2_0 a2_1 x1 _ Hx1.out).mono ?_
         rintro e wn ⟨rfl, hb⟩; refine ⟨_, rfl, ?_⟩; replace HI := Ak (HI.out.below hb); clear hHeld; refine hK.out _ _ ⟨(blk_cell HI.out.b0 0).trans rfl, (blk_cell HI.out.b0 1).trans rfl, (blk_cell HI.out.b1 0).trans rfl, (blk_cell HI.out.b1 1).trans rfl, (blk_cell HI.out.b2 0).trans rfl, (blk_cell HI.out.b2 1).trans rfl, (blk_cell HI.out.b3 0).trans rfl, (blk_cell HI.out.b3 1).trans rfl⟩ (fun hHeld => ?_); clear hK K hb; refine norm_ (a' := ?_) ?_ ?_; rotate_left
         ·show Act.put _ (some 61) _ = _; simp only [Act.put, sA, sB, sC, sD, sE]; rfl
         refine one_ (i := 4) (N := some 62) #[T,T,T,T,T,T,T,T,F,F,F,F,F,F,F,F,F,F,F,F,F,F,F,F,F,F,F] rfl rfl (by kernel_rfl) (by decide) (fun K hK => ?_); refine goes_ Try.func67 (by kernel_rfl) rfl #[.int .i64 x1] (by rfl) rfl rfl (by (try simp only [List.map_toArray, List.map_cons, List.map_nil]); first | done | rfl) ?_
         with_reducible refine (impl_sign.calls x1 s1 _ Hs1.out).mono ?_
         rintro e wn ⟨rfl, hd⟩; have hb := hd.below; refine ⟨_, rfl, ?_⟩; replace HI := Ak (HI.out.below hb); clear hHeld; refine hK.out _ _ ⟨(blk_cell HI.out.b0 0).trans rfl, (blk_cell HI.out.b0 1).trans rfl, (blk_cell HI.out.b1 0).trans rfl, (blk_cell HI.out.b1 1).trans rfl, (blk_cell HI.out.b2 0).trans rfl, (blk_cell HI.out.b2 1).trans rfl, (blk_cell HI.out.b3 0).trans rfl, (blk_cell HI.out.b3 1).trans rfl⟩ (fun hHeld => ?_); clear hK K hb hd; refine norm_ (a' := ?_) ?_ ?_; rotate_left
         ·show Act.put _ (some 62) _ = _; simp only [Act.put, sA, sB, sC, sD, sE]; rfl
         refine one_ (i := 8) (N := some 66) #[T,T,T,T,T,T,T,T,T,F,F,F,F,F,F,F,F,F,F,F,F,F,F,F,F,F,F] rfl rfl (by kernel_rfl) (by decide) (fun K hK => ?_); refine goes_ Try.func66 (by kernel_rfl) rfl #[.agg #[.int .i64 a0_0, .int .i64 a0_1], .agg #[.int .i64 a1_0, .int .i64 a1_1], .agg #[.int .i64 a3_0, .int .i64 a3_1]] (by rfl) rfl rfl (by (try simp only [List.map_toArray, List.map_cons, List.map_nil]); first | done | rfl) ?_
         with_reducible refine (impl_cross.calls a0_0 a0_1 a1_0 a1_1 a3_0 a3_1 x2 _ Hx2.out).mono ?_
         rintro e wn ⟨rfl, hb⟩; refine ⟨_, rfl, ?_⟩; replace HI := Ak (HI.out.below hb); clear hHeld; refine hK.out _ _ ⟨(blk_cell HI.out.b0 0).trans rfl, (blk_cell HI.out.b0 1).trans rfl, (blk_cell HI.out.b1 0).trans rfl, (blk_cell HI.out.b1 1).trans rfl, (blk_cell HI.out.b2 0).trans rfl, (blk_cell HI.out.b2 1).trans rfl, (blk_cell HI.out.b3 0).trans rfl, (blk_cell HI.out.b3 1).trans rfl⟩ (fun hHeld => ?_); clear hK K hb; refine norm_ (a' := ?_) ?_ ?_; rotate_left
         ·show Act.put _ (some 66) _ = _; simp only [Act.put, sA, sB, sC, sD, sE]; rfl
         refine one_ (i := 9) (N := some 67) #[T,T,T,T,T,T,T,T,T,T,F,F,F,F,F,F,F,F,F,F,F,F,F,F,F,F,F] rfl rfl (by kernel_rfl) (by decide) (fun K hK => ?_); refine goes_ Try.func67 (by kernel_rfl) rfl #[.int .i64 x2] (by rfl) rfl rfl (by (try simp only [List.map_toArray, List.map_cons, List.map_nil]); first | done | rfl) ?_
         with_reducible refine (impl_sign.calls x2 s2 _ Hs2.out).mono ?_
         rintro e wn ⟨rfl, hd⟩; have hb := hd.below; refine ⟨_, rfl, ?_⟩; replace HI := Ak (HI.out.below hb); clear hHeld; refine hK.out _ _ ⟨(blk_cell HI.out.b0 0).trans rfl, (blk_cell HI.out.b0 1).trans rfl, (blk_cell HI.out.b1 0).trans rfl, (blk_cell HI.out.b1 1).trans rfl, (blk_cell HI.out.b2 0).trans rfl, (blk_cell HI.out.b2 1).trans rfl, (blk_cell HI.out.b3 0).trans rfl, (blk_cell HI.out.b3 1).trans rfl⟩ (fun hHeld => ?_); clear hK K hb hd; refine norm_ (a' := ?_) ?_ ?_; rotate_left
         ·show Act.put _ (some 67) _ = _; simp only [Act.put, sA, sB, sC, sD, sE]; rfl
         refine pure_ (i := 10) (N := some 68) (v := ?_) (a' := ?_) #[T,T,T,T,T,T,T,T,T,T,T,F,F,F,F,F,F,F,F,F,F,F,F,F,F,F,F] rfl rfl (by kernel_rfl) (fun _ _ _ h => h) (Or.inl ⟨by rfl, ?_⟩) ?_ ?_; rotate_left
         ·intro w'; go_simp; with_reducible rfl
         rotate_left
         ·simp only [Act.put, sA, sB, sC, sD, sE]; rfl
         refine pure_ (i := 11) (N := some 69) (v := ?_) (a' := ?_) #[T,T,T,T,T,T,T,T,T,T,T,T,F,F,F,F,F,F,F,F,F,F,F,F,F,F,F] rfl rfl (by kernel_rfl) (fun _ _ _ h => h) (Or.inl ⟨by rfl, ?_⟩) ?_ ?_; rotate_left
         ·intro w'; go_simp; with_reducible rfl
         rotate_left
         ·simp only [Act.put, sA, sB, sC, sD, sE]; rfl
         refine pure_ (i := 12) (N := some 70) (v := ?_) (a' := ?_) #[T,T,T,T,T,T,T,T,T,T,T,T,T,F,F,F,F,F,F,F,F,F,F,F,F,F,F] rfl rfl (by kernel_rfl) (fun _ _ _ h => h) (Or.inl ⟨by rfl, ?_⟩) ?_ ?_; rotate_left
         ·intro w'; go_simp; with_reducible rfl
         rotate_left
         ·simp only [Act.put, sA, sB, sC, sD, sE]; rfl
         refine take_ (i := 13) (N := some 71) (v := ?_) (a' := ?_) #[T,T,T,T,T,T,T,T,T,T,T,T,T,T,F,F,F,F,F,F,F,F,F,F,F,F,F] rfl rfl (by kernel_rfl) (fun _ _ _ h => h) (Or.inl ⟨by rfl, ?_⟩) hHeld ?_ ?_; rotate_left
         ·rintro w' ⟨q0, q1, q2, q3, q4, q5, q6, q7⟩; go_simp; with_reducible rfl
         rotate_left
         ·simp only [Act.put, sA, sB, sC, sD, sE]; rfl
         refine take_ (i := 14) (N := some 72) (v := ?_) (a' := ?_) #[T,T,T,T,T,T,T,T,T,T,T,T,T,T,T,F,F,F,F,F,F,F,F,F,F,F,F] rfl rfl (by kernel_rfl) (fun _ _ _ h => h) (Or.inl ⟨by rfl, ?_⟩) hHeld ?_ ?_; rotate_left
         ·rintro w' ⟨q0, q1, q2, q3, q4, q5, q6, q7⟩; go_simp; with_reducible rfl
         rotate_left
         ·simp only [Act.put, sA, sB, sC, sD, sE]; rfl
         refine take_ (i := 15) (N := some 73) (v := ?_) (a' := ?_) #[T,T,T,T,T,T,T,T,T,T,T,T,T,T,T,T,F,F,F,F,F,F,F,F,F,F,F] rfl rfl (by kernel_rfl) (fun _ _ _ h => h) (Or.inl ⟨by rfl, ?_⟩) hHeld ?_ ?_; rotate_left
         ·rintro w' ⟨q0, q1, q2, q3, q4, q5, q6, q7⟩; go_simp; with_reducible rfl
         rotate_left
         ·simp only [Act.put, sA, sB, sC, sD, sE]; rfl
         refine take_ (i := 18) (N := some 76) (v := ?_) (a' := ?_) #[T,T,T,T,T,T,T,T,T,T,T,T,T,T,T,T,F,F,T,F,F,F,F,F,F,F,F] rfl rfl (by kernel_rfl) (fun _ _ _ h => h) (Or.inl ⟨by rfl, ?_⟩) hHeld ?_ ?_; rotate_left
         ·rintro w' ⟨q0, q1, q2, q3, q4, q5, q6, q7⟩; go_simp; with_reducible rfl
         rotate_left
         ·simp only [Act.put, sA, sB, sC, sD, sE]; rfl
         refine take_ (i := 19) (N := some 77) (v := ?_) (a' := ?_) #[T,T,T,T,T,T,T,T,T,T,T,T,T,T,T,T,F,F,T,T,F,F,F,F,F,F,F] rfl rfl (by kernel_rfl) (fun _ _ _ h => h) (Or.inl ⟨by rfl, ?_⟩) hHeld ?_ ?_; rotate_left
         ·rintro w' ⟨q0, q1, q2, q3, q4, q5, q6, q7⟩; go_simp; with_reducible rfl
         rotate_left
         ·simp only [Act.put, sA, sB, sC, sD, sE]; rfl
         refine take_ (i := 20) (N := some 78) (v := ?_) (a' := ?_) #[T,T,T,T,T,T,T,T,T,T,T,T,T,T,T,T,F,F,T,T,T,F,F,F,F,F,F] rfl rfl (by kernel_rfl) (fun _ _ _ h => h) (Or.inl ⟨by rfl, ?_⟩) hHeld ?_ ?_; rotate_left
         ·rintro w' ⟨q0, q1, q2, q3, q4, q5, q6, q7⟩; go_simp; with_reducible rfl
         rotate_left
         ·simp only [Act.put, sA, sB, sC, sD, sE]; rfl
         refine one_ (i := 16) (N := some 74) #[T,T,T,T,T,T,T,T,T,T,T,T,T,T,T,T,T,F,T,T,T,F,F,F,F,F,F] rfl rfl (by kernel_rfl) (by decide) (fun K hK => ?_); refine goes_ Try.func66 (by kernel_rfl) rfl #[.agg #[.int .i64 a2_0, .int .i64 a2_1], .agg #[.int .i64 a3_0, .int .i64 a3_1], .agg #[.int .i64 a0_0, .int .i64 a0_1]] (by rfl) rfl rfl (by (try simp only [List.map_toArray, List.map_cons, List.map_nil]); first | done | rfl) ?_
         with_reducible refine (impl_cross.calls a2_0 a2_1 a3_0 a3_1 a0_0 a0_1 x3 _ Hx3.out).mono ?_
         rintro e wn ⟨rfl, hb⟩; refine ⟨_, rfl, ?_⟩; replace HI := Ak (HI.out.below hb); clear hHeld; refine hK.out _ _ ⟨(blk_cell HI.out.b0 0).trans rfl, (blk_cell HI.out.b0 1).trans rfl, (blk_cell HI.out.b1 0).trans rfl, (blk_cell HI.out.b1 1).trans rfl, (blk_cell HI.out.b2 0).trans rfl, (blk_cell HI.out.b2 1).trans rfl, (blk_cell HI.out.b3 0).trans rfl, (blk_cell HI.out.b3 1).trans rfl⟩ (fun hHeld => ?_); clear hK K hb; refine norm_ (a' := ?_) ?_ ?_; rotate_left
         ·show Act.put _ (some 74) _ = _; simp only [Act.put, sA, sB, sC, sD, sE]; rfl
         refine one_ (i := 17) (N := some 75) #[T,T,T,T,T,T,T,T,T,T,T,T,T,T,T,T,T,T,T,T,T,F,F,F,F,F,F] rfl rfl (by kernel_rfl) (by decide) (fun K hK => ?_); refine goes_ Try.func67 (by kernel_rfl) rfl #[.int .i64 x3] (by rfl) rfl rfl (by (try simp only [List.map_toArray, List.map_cons, List.map_nil]); first | done | rfl) ?_
         with_reducible refine (impl_sign.calls x3 s3 _ Hs3.out).mono ?_
         rintro e wn ⟨rfl, hd⟩; have hb := hd.below; refine ⟨_, rfl, ?_⟩; replace HI := Ak (HI.out.below hb); clear hHeld; refine hK.out _ _ ⟨(blk_cell HI.out.b0 0).trans rfl, (blk_cell HI.out.b0 1).trans rfl, (blk_cell HI.out.b1 0).trans rfl, (blk_cell HI.out.b1 1).trans rfl, (blk_cell HI.out.b2 0).trans rfl, (blk_cell HI.out.b2 1).trans rfl, (blk_cell HI.out.b3 0).trans rfl, (blk_cell HI.out.b3 1).trans rfl⟩ (fun hHeld => ?_); clear hK K hb hd; refine norm_ (a' := ?_) ?_ ?_; rotate_left
         ·show Act.put _ (some 75) _ = _; simp only [Act.put, sA, sB, sC, sD, sE]; rfl
         refine one_ (i := 21) (N := some 79) #[T,T,T,T,T,T,T,T,T,T,T,T,T,T,T,T,T,T,T,T,T,T,F,F,F,F,F] rfl rfl (by kernel_rfl) (by decide) (fun K hK => ?_); refine goes_ Try.func66 (by kernel_rfl) rfl #[.agg #[.int .i64 a2_0, .int .i64 a2_1], .agg #[.int .i64 a3_0, .int .i64 a3_1], .agg #[.int .i64 a1_0, .int .i64 a1_1]] (by rfl) rfl rfl (by (try simp only [List.map_toArray, List.map_cons, List.map_nil]); first | done | rfl) ?_
         with_reducible refine (impl_cross.calls a2_0 a2_1 a3_0 a3_1 a1_0 a1_1 x4 _ Hx4.out).mono ?_
         rintro e wn ⟨rfl, hb⟩; refine ⟨_, rfl, ?_⟩; replace HI := Ak (HI.out.below hb); clear hHeld; refine hK.out _ _ ⟨(blk_cell HI.out.b0 0).trans rfl, (blk_cell HI.out.b0 1).trans rfl, (blk_cell HI.out.b1 0).trans rfl, (blk_cell HI.out.b1 1).trans rfl, (blk_cell HI.out.b2 0).trans rfl, (blk_cell HI.out.b2 1).trans rfl, (blk_cell HI.out.b3 0).trans rfl, (blk_cell HI.out.b3 1).trans rfl⟩ (fun hHeld => ?_); clear hK K hb; refine norm_ (a' := ?_) ?_ ?_; rotate_left
         ·show Act.put _ (some 79) _ = _; simp only [Act.put, sA, sB, sC, sD, sE]; rfl
         refine one_ (i := 22) (N := some 80) #[T,T,T,T,T,T,T,T,T,T,T,T,T,T,T,T,T,T,T,T,T,T,T,F,F,F,F] rfl rfl (by kernel_rfl) (by decide) (fun K hK => ?_); refine goes_ Try.func67 (by kernel_rfl) rfl #[.int .i64 x4] (by rfl) rfl rfl (by (try simp only [List.map_toArray, List.map_cons, List.map_nil]); first | done | rfl) ?_
         with_reducible refine (impl_sign.calls x4 s4 _ Hs4.out).mono ?_
         rintro e wn ⟨rfl, hd⟩; have hb := hd.below; refine ⟨_, rfl, ?_⟩; replace HI := Ak (HI.out.below hb); clear hHeld; refine hK.out _ _ ⟨(blk_cell HI.out.b0 0).trans rfl, (blk_cell HI.out.b0 1).trans rfl, (blk_cell HI.out.b1 0).trans rfl, (blk_cell HI.out.b1 1).trans rfl, (blk_cell HI.out.b2 0).trans rfl, (blk_cell HI.out.b2 1).trans rfl, (blk_cell HI.out.b3 0).trans rfl, (blk_cell HI.out.b3 1).trans rfl⟩ (fun hHeld => ?_); clear hK K hb hd; refine norm_ (a' := ?_) ?_ ?_; rotate_left
         ·show Act.put _ (some 80) _ = _; simp only [Act.put, sA, sB, sC, sD, sE]; rfl
         refine pure_ (i := 23) (N := some 81) (v := ?_) (a' := ?_) #[T,T,T,T,T,T,T,T,T,T,T,T,T,T,T,T,T,T,T,T,T,T,T,T,F,F,F] rfl rfl (by kernel_rfl) (fun _ _ _ h => h) (Or.inl ⟨by rfl, ?_⟩) ?_ ?_; rotate_left
         ·intro w'; go_simp; with_reducible rfl
         rotate_left
         ·simp only [Act.put, sA, sB, sC, sD, sE]; rfl
         refine pure_ (i := 24) (N := some 82) (v := ?_) (a' := ?_) #[T,T,T,T,T,T,T,T,T,T,T,T,T,T,T,T,T,T,T,T,T,T,T,T,T,F,F] rfl rfl (by kernel_rfl) (fun _ _ _ h => h) (Or.inl ⟨by rfl, ?_⟩) ?_ ?_; rotate_left
         ·intro w'; go_simp; with_reducible rfl
         rotate_left
         ·simp only [Act.put, sA, sB, sC, sD, sE]; rfl
         refine pure_ (i := 25) (N := some 83) (v := ?_) (a' := ?_) #[T,T,T,T,T,T,T,T,T,T,T,T,T,T,T,T,T,T,T,T,T,T,T,T,T,T,F] rfl rfl (by kernel_rfl) (fun _ _ _ h => h) (Or.inl ⟨by rfl, ?_⟩) ?_ ?_; rotate_left
         ·intro w'; go_simp; with_reducible rfl
         rotate_left
         ·simp only [Act.put, sA, sB, sC, sD, sE]; rfl
         refine pure_ (i := 26) (N := some 57) (v := ?_) (a' := ?_) #[T,T,T,T,T,T,T,T,T,T,T,T,T,T,T,T,T,T,T,T,T,T,T,T,T,T,T] rfl rfl (by kernel_rfl) (fun _ _ _ h => h) (Or.inl ⟨by rfl, ?_⟩) ?_ ?_; rotate_left
         ·intro w'; go_simp; with_reducible rfl
         rotate_left
         ·simp only [Act.put, sA, sB, sC, sD, sE]; rfl
         refine done_ (by kernel_rfl) ?_
         try go_wp2
         go_ret
         exact ⟨rfl, HI.out.bel⟩
       ·rw [if_neg k3] at HF; obtain rfl := Option.some.inj HF; have k3b : decide (wrap64 (s1 * s2) < 0) = false := decide_eq_false k3; clear k3 HF
        go_wp2
        replace HI := Ak (HI.out.below (below_drew1 (Below.refl wr.heap.size wr))); refine start_ (n := 27) (S := fun w' => w'.cell? ⟨g0, 0, none⟩ = some (.int .i64 a0_0) ∧ w'.cell? ⟨g0, 1, none⟩ = some (.int .i64 a0_1) ∧ w'.cell? ⟨g1, 0, none⟩ = some (.int .i64 a1_0) ∧ w'.cell? ⟨g1, 1, none⟩ = some (.int .i64 a1_1) ∧ w'.cell? ⟨g2, 0, none⟩ = some (.int .i64 a2_0) ∧ w'.cell? ⟨g2, 1, none⟩ = some (.int .i64 a2_1) ∧ w'.cell? ⟨g3, 0, none⟩ = some (.int .i64 a3_0) ∧ w'.cell? ⟨g3, 1, none⟩ = some (.int .i64 a3_1)) (ds := []) #[F,F,F,F,F,F,F,F,F,F,F,F,F,F,F,F,F,F,F,F,F,F,F,F,F,F,F] (by kernel_rfl) rfl rfl ⟨(blk_cell HI.out.b0 0).trans rfl, (blk_cell HI.out.b0 1).trans rfl, (blk_cell HI.out.b1 0).trans rfl, (blk_cell HI.out.b1 1).trans rfl, (blk_cell HI.out.b2 0).trans rfl, (blk_cell HI.out.b2 1).trans rfl, (blk_cell HI.out.b3 0).trans rfl, (blk_cell HI.out.b3 1).trans rfl⟩ (fun hHeld => ?_); generalize wr.drew = wd at HI hHeld ⊢; clear cg; refine take_ (i := 0) (N := some 58) (v := ?_) (a' := ?_) #[T,F,F,F,F,F,F,F,F,F,F,F,F,F,F,F,F,F,F,F,F,F,F,F,F,F,F] rfl rfl (by kernel_rfl) (fun _ _ _ h => h) (Or.inl ⟨by rfl, ?_⟩) hHeld ?_ ?_; rotate_left
        ·rintro w' ⟨q0, q1, q2, q3, q4, q5, q6, q7⟩; go_simp; with_reducible rfl
        rotate_left
        ·simp only [Act.put, sA, sB, sC, sD, sE]; rfl
        refine take_ (i := 1) (N := some 59) (v := ?_) (a' := ?_) #[T,T,F,F,F,F,F,F,F,F,F,F,F,F,F,F,F,F,F,F,F,F,F,F,F,F,F] rfl rfl (by kernel_rfl) (fun _ _ _ h => h) (Or.inl ⟨by rfl, ?_⟩) hHeld ?_ ?_; rotate_left
        ·rintro w' ⟨q0, q1, q2, q3, q4, q5, q6, q7⟩; go_simp; with_reducible rfl
        rotate_left
        ·simp only [Act.put, sA, sB, sC, sD, sE]; rfl
        refine take_ (i := 2) (N := some 60) (v := ?_) (a' := ?_) #[T,T,T,F,F,F,F,F,F,F,F,F,F,F,F,F,F,F,F,F,F,F,F,F,F,F,F] rfl rfl (by kernel_rfl) (fun _ _ _ h => h) (Or.inl ⟨by rfl, ?_⟩) hHeld ?_ ?_; rotate_left
        ·rintro w' ⟨q0, q1, q2, q3, q4, q5, q6, q7⟩; go_simp; with_reducible rfl
        rotate_left
        ·simp only [Act.put, sA, sB, sC, sD, sE]; rfl
        refine take_ (i := 5) (N := some 63) (v := ?_) (a' := ?_) #[T,T,T,F,F,T,F,F,F,F,F,F,F,F,F,F,F,F,F,F,F,F,F,F,F,F,F] rfl rfl (by kernel_rfl) (fun _ _ _ h => h) (Or.inl ⟨by rfl, ?_⟩) hHeld ?_ ?_; rotate_left
        ·rintro w' ⟨q0, q1, q2, q3, q4, q5, q6, q7⟩; go_simp; with_reducible rfl
        rotate_left
        ·simp only [Act.put, sA, sB, sC, sD, sE]; rfl
        refine take_ (i := 6) (N := some 64) (v := ?_) (a' := ?_) #[T,T,T,F,F,T,T,F,F,F,F,F,F,F,F,F,F,F,F,F,F,F,F,F,F,F,F] rfl rfl (by kernel_rfl) (fun _ _ _ h => h) (Or.inl ⟨by rfl, ?_⟩) hHeld ?_ ?_; rotate_left
        ·rintro w' ⟨q0, q1, q2, q3, q4, q5, q6, q7⟩; go_simp; with_reducible rfl
        rotate_left
        ·simp only [Act.put, sA, sB, sC, sD, sE]; rfl
        refine take_ (i := 7) (N := some 65) (v := ?_) (a' := ?_) #[T,T,T,F,F,T,T,T,F,F,F,F,F,F,F,F,F,F,F,F,F,F,F,F,F,F,F] rfl rfl (by kernel_rfl) (fun _ _ _ h => h) (Or.inl ⟨by rfl, ?_⟩) hHeld ?_ ?_; rotate_left
        ·rintro w' ⟨q0, q1, q2, q3, q4, q5, q6, q7⟩; go_simp; with_reducible rfl
        rotate_left
        ·simp only [Act.put, sA, sB, sC, sD, sE]; rfl
        refine one_ (i := 3) (N := some 61) #[T,T,T,T,F,T,T,T,F,F,F,F,F,F,F,F,F,F,F,F,F,F,F,F,F,F,F] rfl rfl (by kernel_rfl) (by decide) (fun K hK => ?_); refine goes_ Try.func66 (by kernel_rfl) rfl #[.agg #[.int .i64 a0_0, .int .i64 a0_1], .agg #[.int .i64 a1_0, .int .i64 a1_1], .agg #[.int .i64 a2_0, .int .i64 a2_1]] (by rfl) rfl rfl (by (try simp only [List.map_toArray, List.map_cons, List.map_nil]); first | done | rfl) ?_
        with_reducible refine (impl_cross.calls a0_0 a0_1 a1_0 a1_1 a2_0 a2_1 x1 _ Hx1.out).mono ?_
        rintro e wn ⟨rfl, hb⟩; refine ⟨_, rfl, ?_⟩; replace HI := Ak (HI.out.below hb); clear hHeld; refine hK.out _ _ ⟨(blk_cell HI.out.b0 0).trans rfl, (blk_cell HI.out.b0 1).trans rfl, (blk_cell HI.out.b1 0).trans rfl, (blk_cell HI.out.b1 1).trans rfl, (blk_cell HI.out.b2 0).trans rfl, (blk_cell HI.out.b2 1).trans rfl, (blk_cell HI.out.b3 0).trans rfl, (blk_cell HI.out.b3 1).trans rfl⟩ (fun hHeld => ?_); clear hK K hb; refine norm_ (a' := ?_) ?_ ?_; rotate_left
        ·show Act.put _ (some 61) _ = _; simp only [Act.put, sA, sB, sC, sD, sE]; rfl
        refine one_ (i := 4) (N := some 62) #[T,T,T,T,T,T,T,T,F,F,F,F,F,F,F,F,F,F,F,F,F,F,F,F,F,F,F] rfl rfl (by kernel_rfl) (by decide) (fun K hK => ?_); refine goes_ Try.func67 (by kernel_rfl) rfl #[.int .i64 x1] (by rfl) rfl rfl (by (try simp only [List.map_toArray, List.map_cons, List.map_nil]); first | done | rfl) ?_
        with_reducible refine (impl_sign.calls x1 s1 _ Hs1.out).mono ?_
        rintro e wn ⟨rfl, hd⟩; have hb := hd.below; refine ⟨_, rfl, ?_⟩; replace HI := Ak (HI.out.below hb); clear hHeld; refine hK.out _ _ ⟨(blk_cell HI.out.b0 0).trans rfl, (blk_cell HI.out.b0 1).trans rfl, (blk_cell HI.out.b1 0).trans rfl, (blk_cell HI.out.b1 1).trans rfl, (blk_cell HI.out.b2 0).trans rfl, (blk_cell HI.out.b2 1).trans rfl, (blk_cell HI.out.b3 0).trans rfl, (blk_cell HI.out.b3 1).trans rfl⟩ (fun hHeld => ?_); clear hK K hb hd; refine norm_ (a' := ?_) ?_ ?_; rotate_left
        ·show Act.put _ (some 62) _ = _; simp only [Act.put, sA, sB, sC, sD, sE]; rfl
        refine one_ (i := 8) (N := some 66) #[T,T,T,T,T,T,T,T,T,F,F,F,F,F,F,F,F,F,F,F,F,F,F,F,F,F,F] rfl rfl (by kernel_rfl) (by decide) (fun K hK => ?_); refine goes_ Try.func66 (by kernel_rfl) rfl #[.agg #[.int .i64 a0_0, .int .i64 a0_1], .agg #[.int .i64 a1_0, .int .i64 a1_1], .agg #[.int .i64 a3_0, .int .i64 a3_1]] (by rfl) rfl rfl (by (try simp only [List.map_toArray, List.map_cons, List.map_nil]); first | done | rfl) ?_
        with_reducible refine (impl_cross.calls a0_0 a0_1 a1_0 a1_1 a3_0 a3_1 x2 _ Hx2.out).mono ?_
        rintro e wn ⟨rfl, hb⟩; refine ⟨_, rfl, ?_⟩; replace HI := Ak (HI.out.below hb); clear hHeld; refine hK.out _ _ ⟨(blk_cell HI.out.b0 0).trans rfl, (blk_cell HI.out.b0 1).trans rfl, (blk_cell HI.out.b1 0).trans rfl, (blk_cell HI.out.b1 1).trans rfl, (blk_cell HI.out.b2 0).trans rfl, (blk_cell HI.out.b2 1).trans rfl, (blk_cell HI.out.b3 0).trans rfl, (blk_cell HI.out.b3 1).trans rfl⟩ (fun hHeld => ?_); clear hK K hb; refine norm_ (a' := ?_) ?_ ?_; rotate_left
        ·show Act.put _ (some 66) _ = _; simp only [Act.put, sA, sB, sC, sD, sE]; rfl
        refine one_ (i := 9) (N := some 67) #[T,T,T,T,T,T,T,T,T,T,F,F,F,F,F,F,F,F,F,F,F,F,F,F,F,F,F] rfl rfl (by kernel_rfl) (by decide) (fun K hK => ?_); refine goes_ Try.func67 (by kernel_rfl) rfl #[.int .i64 x2] (by rfl) rfl rfl (by (try simp only [List.map_toArray, List.map_cons, List.map_nil]); first | done | rfl) ?_
        with_reducible refine (impl_sign.calls x2 s2 _ Hs2.out).mono ?_
        rintro e wn ⟨rfl, hd⟩; have hb := hd.below; refine ⟨_, rfl, ?_⟩; replace HI := Ak (HI.out.below hb); clear hHeld; refine hK.out _ _ ⟨(blk_cell HI.out.b0 0).trans rfl, (blk_cell HI.out.b0 1).trans rfl, (blk_cell HI.out.b1 0).trans rfl, (blk_cell HI.out.b1 1).trans rfl, (blk_cell HI.out.b2 0).trans rfl, (blk_cell HI.out.b2 1).trans rfl, (blk_cell HI.out.b3 0).trans rfl, (blk_cell HI.out.b3 1).trans rfl⟩ (fun hHeld => ?_); clear hK K hb hd; refine norm_ (a' := ?_) ?_ ?_; rotate_left
        ·show Act.put _ (some 67) _ = _; simp only [Act.put, sA, sB, sC, sD, sE]; rfl
        refine pure_ (i := 10) (N := some 68) (v := ?_) (a' := ?_) #[T,T,T,T,T,T,T,T,T,T,T,F,F,F,F,F,F,F,F,F,F,F,F,F,F,F,F] rfl rfl (by kernel_rfl) (fun _ _ _ h => h) (Or.inl ⟨by rfl, ?_⟩) ?_ ?_; rotate_left
        ·intro w'; go_simp; with_reducible rfl
        rotate_left
        ·simp only [Act.put, sA, sB, sC, sD, sE]; rfl
        refine pure_ (i := 11) (N := some 69) (v := ?_) (a' := ?_) #[T,T,T,T,T,T,T,T,T,T,T,T,F,F,F,F,F,F,F,F,F,F,F,F,F,F,F] rfl rfl (by kernel_rfl) (fun _ _ _ h => h) (Or.inl ⟨by rfl, ?_⟩) ?_ ?_; rotate_left
        ·intro w'; go_simp; with_reducible rfl
        rotate_left
        ·simp only [Act.put, sA, sB, sC, sD, sE]; rfl
        refine pure_ (i := 12) (N := some 70) (v := ?_) (a' := ?_) #[T,T,T,T,T,T,T,T,T,T,T,T,T,F,F,F,F,F,F,F,F,F,F,F,F,F,F] rfl rfl (by kernel_rfl) (fun _ _ _ h => h) (Or.inl ⟨by rfl, ?_⟩) ?_ ?_; rotate_left
        ·intro w'; go_simp; with_reducible rfl
        rotate_left
        ·simp only [Act.put, sA, sB, sC, sD, sE]; rfl
        refine pure_ (i := 13) (N := some 71) (v := undef) (a' := ?_) #[T,T,T,T,T,T,T,T,T,T,T,T,T,T,F,F,F,F,F,F,F,F,F,F,F,F,F] rfl rfl (by kernel_rfl) (fun _ _ _ h => h) (Or.inr ⟨by rfl, rfl⟩) ?_ ?_; rotate_left
        ·simp only [Act.put, sA, sB, sC, sD, sE]; rfl
        refine pure_ (i := 14) (N := some 72) (v := undef) (a' := ?_) #[T,T,T,T,T,T,T,T,T,T,T,T,T,T,T,F,F,F,F,F,F,F,F,F,F,F,F] rfl rfl (by kernel_rfl) (fun _ _ _ h => h) (Or.inr ⟨by rfl, rfl⟩) ?_ ?_; rotate_left
        ·simp only [Act.put, sA, sB, sC, sD, sE]; rfl
        refine pure_ (i := 15) (N := some 73) (v := undef) (a' := ?_) #[T,T,T,T,T,T,T,T,T,T,T,T,T,T,T,T,F,F,F,F,F,F,F,F,F,F,F] rfl rfl (by kernel_rfl) (fun _ _ _ h => h) (Or.inr ⟨by rfl, rfl⟩) ?_ ?_; rotate_left
        ·simp only [Act.put, sA, sB, sC, sD, sE]; rfl
        refine pure_ (i := 18) (N := some 76) (v := undef) (a' := ?_) #[T,T,T,T,T,T,T,T,T,T,T,T,T,T,T,T,F,F,T,F,F,F,F,F,F,F,F] rfl rfl (by kernel_rfl) (fun _ _ _ h => h) (Or.inr ⟨by rfl, rfl⟩) ?_ ?_; rotate_left
        ·simp only [Act.put, sA, sB, sC, sD, sE]; rfl
        refine pure_ (i := 19) (N := some 77) (v := undef) (a' := ?_) #[T,T,T,T,T,T,T,T,T,T,T,T,T,T,T,T,F,F,T,T,F,F,F,F,F,F,F] rfl rfl (by kernel_rfl) (fun _ _ _ h => h) (Or.inr ⟨by rfl, rfl⟩) ?_ ?_; rotate_left
        ·simp only [Act.put, sA, sB, sC, sD, sE]; rfl
        refine pure_ (i := 20) (N := some 78) (v := undef) (a' := ?_) #[T,T,T,T,T,T,T,T,T,T,T,T,T,T,T,T,F,F,T,T,T,F,F,F,F,F,F] rfl rfl (by kernel_rfl) (fun _ _ _ h => h) (Or.inr ⟨by rfl, rfl⟩) ?_ ?_; rotate_left
        ·simp only [Act.put, sA, sB, sC, sD, sE]; rfl
        refine pure_ (i := 16) (N := some 74) (v := undef) (a' := ?_) #[T,T,T,T,T,T,T,T,T,T,T,T,T,T,T,T,T,F,T,T,T,F,F,F,F,F,F] rfl rfl (by kernel_rfl) (fun _ _ _ h => h) (Or.inr ⟨by rfl, rfl⟩) ?_ ?_; rotate_left
        ·simp only [Act.put, sA, sB, sC, sD, sE]; rfl
        refine pure_ (i := 17) (N := some 75) (v := undef) (a' := ?_) #[T,T,T,T,T,T,T,T,T,T,T,T,T,T,T,T,T,T,T,T,T,F,F,F,F,F,F] rfl rfl (by kernel_rfl) (fun _ _ _ h => h) (Or.inr ⟨by rfl, rfl⟩) ?_ ?_; rotate_left
        ·simp only [Act.put, sA, sB, sC, sD, sE]; rfl
        refine pure_ (i := 21) (N := some 79) (v := undef) (a' := ?_) #[T,T,T,T,T,T,T,T,T,T,T,T,T,T,T,T,T,T,T,T,T,T,F,F,F,F,F] rfl rfl (by kernel_rfl) (fun _ _ _ h => h) (Or.inr ⟨by rfl, rfl⟩) ?_ ?_; rotate_left
        ·simp only [Act.put, sA, sB, sC, sD, sE]; rfl
        refine pure_ (i := 22) (N := some 80) (v := undef) (a' := ?_) #[T,T,T,T,T,T,T,T,T,T,T,T,T,T,T,T,T,T,T,T,T,T,T,F,F,F,F] rfl rfl (by kernel_rfl) (fun _ _ _ h => h) (Or.inr ⟨by rfl, rfl⟩) ?_ ?_; rotate_left
        ·simp only [Act.put, sA, sB, sC, sD, sE]; rfl
        refine pure_ (i := 23) (N := some 81) (v := undef) (a' := ?_) #[T,T,T,T,T,T,T,T,T,T,T,T,T,T,T,T,T,T,T,T,T,T,T,T,F,F,F] rfl rfl (by kernel_rfl) (fun _ _ _ h => h) (Or.inr ⟨by rfl, rfl⟩) ?_ ?_; rotate_left
        ·simp only [Act.put, sA, sB, sC, sD, sE]; rfl
        refine pure_ (i := 24) (N := some 82) (v := undef) (a' := ?_) #[T,T,T,T,T,T,T,T,T,T,T,T,T,T,T,T,T,T,T,T,T,T,T,T,T,F,F] rfl rfl (by kernel_rfl) (fun _ _ _ h => h) (Or.inr ⟨by rfl, rfl⟩) ?_ ?_; rotate_left
        ·simp only [Act.put, sA, sB, sC, sD, sE]; rfl
        refine pure_ (i := 25) (N := some 83) (v := ?_) (a' := ?_) #[T,T,T,T,T,T,T,T,T,T,T,T,T,T,T,T,T,T,T,T,T,T,T,T,T,T,F] rfl rfl (by kernel_rfl) (fun _ _ _ h => h) (Or.inl ⟨by rfl, ?_⟩) ?_ ?_; rotate_left
        ·intro w'; go_simp; with_reducible rfl
        rotate_left
        ·simp only [Act.put, sA, sB, sC, sD, sE]; rfl
        refine pure_ (i := 26) (N := some 57) (v := ?_) (a' := ?_) #[T,T,T,T,T,T,T,T,T,T,T,T,T,T,T,T,T,T,T,T,T,T,T,T,T,T,T] rfl rfl (by kernel_rfl) (fun _ _ _ h => h) (Or.inl ⟨by rfl, ?_⟩) ?_ ?_; rotate_left
        ·intro w'; go_simp; with_reducible rfl
        rotate_left
        ·simp only [Act.put, sA, sB, sC, sD, sE]; rfl
        refine done_ (by kernel_rfl) ?_
        try go_wp2
        go_ret
        exact ⟨rfl, HI.out.bel⟩
end Go.Proofs.Ytlccpkggdmngaaa.G
