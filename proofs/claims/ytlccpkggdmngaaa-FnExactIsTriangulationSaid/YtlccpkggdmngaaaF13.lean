/- A Go function as a plain Lean function, and the proof that Go's call comes to its answer. No conditions but those in the theorem. Written by gen.py (a program of this session over the kit's print). -/
-- SHRUNK by pack.py
import Derived.Test.YtlccpkggdmngaaaG0
import Derived.Test.YtlccpkggdmngaaaE27
import Derived.Test.YtlccpkggdmngaaaFA
import Derived.Test.YtlccpkggdmngaaaF56
namespace Go.Proofs.Ytlccpkggdmngaaa.G
open Go.RowKit Go.Proofs.YtlccpkggdmngaaaW.PrintWords Go.Proofs.YtlccpkggdmngaaaW.PrintLast Go.Proofs.YtlccpkggdmngaaaW.PrintMore Go.Proofs.YtlccpkggdmngaaaW.PrintBits
attribute [local go_sem] max2_int min2_int max_two min_two max_three min_three max_four min_four   -- for this text's walks alone
set_option linter.unusedVariables false
set_option linter.unusedSimpArgs false

/-! ### impl_PolygonOk: function 13 -/
/-- What two sides' meeting should be. -/
def impl_PolygonOk.want (n x y : Int) : Bool := decide (y = x + 1) || (decide (x = 0) && decide (y = n - 1))
/-- The sides from x and from y meet as they should. -/
def impl_PolygonOk.pair (l : List S27) (x y : Int) : Bool :=
 !((rd_T27 l x).f0 == (rd_T27 l (x + 1)).f0 && ((rd_T27 l x).f1 == (rd_T27 l (x + 1)).f1)) && (!((rd_T27 l y).f0 == (rd_T27 l ((y + 1) % (l.length : Int))).f0 && ((rd_T27 l y).f1 == (rd_T27 l ((y + 1) % (l.length : Int))).f1)) &&
 (impl_meet.f (rd_T27 l x).f0 (rd_T27 l x).f1 (rd_T27 l (x + 1)).f0 (rd_T27 l (x + 1)).f1 (rd_T27 l y).f0 (rd_T27 l y).f1 (rd_T27 l ((y + 1) % (l.length : Int))).f0 (rd_T27 l ((y + 1) % (l.length : Int))).f1 == some (if impl_PolygonOk.want l.length x y = true then 1 else 0)))
def impl_PolygonOk.row (l : List S27) (x : Nat) : Bool := (List.range l.length).all fun y => decide (y ≤ x) || impl_PolygonOk.pair l (x : Int) (y : Int)
def impl_PolygonOk.all (l : List S27) : Bool := (List.range l.length).all fun x => impl_PolygonOk.row l x
def impl_PolygonOk.ok (l : List S27) : Bool := decide (3 ≤ l.length) && (decide (l.length ≤ 10) && (l.all okp && impl_PolygonOk.all l))
def impl_PolygonOk.f (l : List S27) : Option Bool := some (impl_PolygonOk.ok l)
theorem impl_meet.f_some (a0 a1 b0 b1 c0 c1 d0 d1 : Int) : ∃ r, impl_meet.f a0 a1 b0 b1 c0 c1 d0 d1 = some r := by
 unfold impl_meet.f impl_cross.f
 simp only [Option.bind_some]
 have sg : ∀ x, ∃ r, impl_sign.f x = some r := fun x => by unfold impl_sign.f; split; exact ⟨_, rfl⟩; split <;> exact ⟨_, rfl⟩
 split
 ·exact ⟨_, rfl⟩
 ·split
  ·exact ⟨_, rfl⟩
  ·obtain ⟨s1, h1⟩ := sg (wrap64 (wrap64 (wrap64 (b0 - a0) * wrap64 (c1 - a1)) - wrap64 (wrap64 (b1 - a1) * wrap64 (c0 - a0))))
   obtain ⟨s2, h2⟩ := sg (wrap64 (wrap64 (wrap64 (b0 - a0) * wrap64 (d1 - a1)) - wrap64 (wrap64 (b1 - a1) * wrap64 (d0 - a0))))
   obtain ⟨s3, h3⟩ := sg (wrap64 (wrap64 (wrap64 (d0 - c0) * wrap64 (a1 - c1)) - wrap64 (wrap64 (d1 - c1) * wrap64 (a0 - c0))))
   obtain ⟨s4, h4⟩ := sg (wrap64 (wrap64 (wrap64 (d0 - c0) * wrap64 (b1 - c1)) - wrap64 (wrap64 (d1 - c1) * wrap64 (b0 - c0))))
   rw [h1, h2, h3, h4]
   simp only [Option.bind_some]
   split
   ·split <;> exact ⟨_, rfl⟩
   ·exact ⟨_, rfl⟩
theorem impl_PolygonOk.row_of {l : List S27} {x : Nat} (h : ∀ y : Int, (x : Int) < y → y < l.length → impl_PolygonOk.pair l x y = true) : impl_PolygonOk.row l x = true := by
 unfold impl_PolygonOk.row
 rw [List.all_eq_true]
 intro y hy
 have hy := List.mem_range.1 hy
 by_cases hxy : y ≤ x
 ·simp [hxy]
 ·simp [h (y : Int) (by omega) (by omega)]
theorem impl_PolygonOk.row_of' {l : List S27} {x : Int} (h0 : 0 ≤ x) (h : ∀ y : Int, x < y → y < l.length → impl_PolygonOk.pair l x y = true) : impl_PolygonOk.row l x.toNat = true := by
 have e : ((x.toNat : Nat) : Int) = x := by omega
 exact impl_PolygonOk.row_of (by rw [e]; exact h)
theorem impl_PolygonOk.all_of {l : List S27} (h : ∀ x : Nat, x < l.length → impl_PolygonOk.row l x = true) : impl_PolygonOk.all l = true := by
 unfold impl_PolygonOk.all
 rw [List.all_eq_true]
 exact fun x hx => h x (List.mem_range.1 hx)
theorem impl_PolygonOk.two_put {w : World} {g : Nat} {z0 z1 : Value} (h : w.heap[g]? = some (.cells #[z0, z1] 27 (0, 0))) (v0 v1 : Value) : ((w.setCell ⟨g, 0, none⟩ v0).setCell ⟨g, 1, none⟩ v1).heap[g]? = some (.cells #[v0, v1] 27 (0, 0)) := blk_put (cs := #[v0, z1]) (blk_put (cs' := #[v0, z1]) h 0 v0 rfl) 1 v1 rfl
theorem impl_PolygonOk.two_far {w : World} {g g2 : Nat} {cs : Array Value} (h : w.heap[g]? = some (.cells cs 27 (0, 0))) (hne : g ≠ g2) (v0 v1 : Value) : ((w.setCell ⟨g2, 0, none⟩ v0).setCell ⟨g2, 1, none⟩ v1).heap[g]? = some (.cells cs 27 (0, 0)) := blk_far (blk_far h hne v0) hne v1
/-- New blocks, each of two zeros. -/
def impl_PolygonOk.Fr (w w' : World) (L : List Nat) : Prop := Below w.heap.size w w' ∧ L.Nodup ∧ ∀ g ∈ L, w.heap.size ≤ g ∧ w'.heap[g]? = some (.cells #[.int .i64 0, .int .i64 0] 27 (0, 0))
theorem impl_PolygonOk.Fr.step {w w1 w2 : World} {L : List Nat} {g : Nat} (h : impl_PolygonOk.Fr w w1 L) (hg : g = w1.heap.size) (hb : w2.heap[g]? = some (.cells #[.int .i64 0, .int .i64 0] 27 (0, 0))) (hB : Below w1.heap.size w1 w2) : impl_PolygonOk.Fr w w2 (g :: L) := by
 refine ⟨below_step h.1 hB, List.nodup_cons.2 ⟨fun hm => ?_, h.2.1⟩, fun k hk => ?_⟩
 ·have := blk_lt (h.2.2 g hm).2; omega
 ·rcases List.mem_cons.1 hk with rfl | hk
  ·exact ⟨by rw [hg]; exact below_size h.1, hb⟩
  ·exact ⟨(h.2.2 k hk).1, blk_below (h.2.2 k hk).2 hB⟩
theorem impl_PolygonOk.Fr.sort {w w' : World} {L L' : List Nat} (h : impl_PolygonOk.Fr w w' L) (hn : L'.Nodup) (hs : ∀ x ∈ L', x ∈ L) : impl_PolygonOk.Fr w w' L' := ⟨h.1, hn, fun g hg => h.2.2 g (hs g hg)⟩
theorem impl_PolygonOk.not_all {l : List S27} {x y : Int} (h0 : 0 ≤ x) (h1 : x < y) (h2 : y < l.length) (h : impl_PolygonOk.pair l x y = false) : impl_PolygonOk.all l = false := by
 rw [← Bool.not_eq_true]
 intro ha
 unfold impl_PolygonOk.all at ha
 have hr := List.all_eq_true.1 ha x.toNat (List.mem_range.2 (by omega))
 unfold impl_PolygonOk.row at hr
 have hp := List.all_eq_true.1 hr y.toNat (List.mem_range.2 (by omega))
 have e1 : ((x.toNat : Nat) : Int) = x := by omega
 have e2 : ((y.toNat : Nat) : Int) = y := by omega
 rw [e1, e2, h] at hp
 simp at hp
 omega

set_option maxHeartbeats 16000000 in
set_option maxRecDepth 100000 in
attribute [local go_sem high] eqA27 in
theorem impl_PolygonOk.calls (A0 : Option Addr) (c0 : Nat) (l0 : List S27) (r : Bool) (w : World) (hr0 : Kd.C k27 w A0 l0.length l0) (hc0 : l0.length ≤ c0) (h : impl_PolygonOk.f l0 = some r) :
  Calls Try.prog 13 #[.slice A0 l0.length c0] w fun e w' => e = .returned (.bool r) ∧ Below w.heap.size w w' := by
 have hu1 := Try.underlying27; have HR0 := Ak hr0; have HC0 := Ak hc0; clear hr0 hc0; have HB := Ak (Below.refl w.heap.size w); obtain rfl : impl_PolygonOk.ok l0 = r := Option.some.inj h; clear h
 by_cases k1 : (l0.length : Int) < 3
 ·have HV : Aside0 (impl_PolygonOk.ok l0 = false) := ⟨by unfold impl_PolygonOk.ok; rw [decide_eq_false (show ¬ 3 ≤ l0.length by omega)]; rfl⟩; rw [HV.out]; have k1b : decide ((l0.length : Int) < 3) = true := decide_eq_true k1; clear k1
  go_enter Try.func13, Try.ntmps13
  go_wp2
  go_ret
  exact ⟨rfl, HB.out⟩
 ·have k1b : decide ((l0.length : Int) < 3) = false := decide_eq_false k1
  by_cases k2 : 10 < (l0.length : Int)
  ·have HV : Aside0 (impl_PolygonOk.ok l0 = false) := ⟨by unfold impl_PolygonOk.ok; rw [decide_eq_false (show ¬ l0.length ≤ 10 by omega)]; simp⟩; rw [HV.out]; have k2b : decide (10 < (l0.length : Int)) = true := decide_eq_true k2; clear k1 k2
   go_enter Try.func13, Try.ntmps13
   go_wp2
   go_ret
   exact ⟨rfl, HB.out⟩
  ·have k2b : decide (10 < (l0.length : Int)) = false := decide_eq_false k2; have HLEN := Ak (show 3 ≤ l0.length ∧ l0.length ≤ 10 by omega); have HARE := Ak (impl_arePoints_eq l0 (by omega) 11 (by omega)); have HOK := Ak (show impl_PolygonOk.ok l0 = (l0.all okp && impl_PolygonOk.all l0) by unfold impl_PolygonOk.ok; rw [decide_eq_true (show 3 ≤ l0.length by omega), decide_eq_true (show l0.length ≤ 10 by omega)]; rfl); rw [HOK.out]; clear k1 k2
   by_cases k3 : l0.all okp = true
   ·rw [k3] at HARE; rw [k3, Bool.true_and]; clear k3
    go_enter Try.func13, Try.ntmps13
    go_wp2_with (first | (go_at_call 55; (with_reducible refine (impl_arePoints.calls 11 A0 c0 l0 true _ HR0.out HC0.out HARE.out).mono ?_); rintro e w2 ⟨rfl, hb⟩; have HB2 := Ak hb; clear hb))
    go_loopg [25] l0.length (fun gk v25 wr => ∃ x : Int, v25 = .int .i64 x ∧ Aside0 (0 ≤ x ∧ x + gk = l0.length) ∧ Aside0 (Below w.heap.size w wr) ∧ Aside0 (∀ i : Nat, (i : Int) < x → impl_PolygonOk.row l0 i = true))
    case atStart => exact ⟨0, rfl, ⟨by omega⟩, HB2, ⟨fun i hi => by omega⟩⟩
    case round =>
     obtain ⟨x, rfl, HX, HB, HN⟩ := hrel
     cases gk with
     | zero =>
      have c1 : decide (x < (l0.length : Int)) = false := decide_eq_false (by have := HX.out; omega); have HV : impl_PolygonOk.all l0 = true := impl_PolygonOk.all_of fun i hi => HN.out i (by have := HX.out; omega)
      replace HV := Ak HV
      go_wp2
      go_ret
      exact ⟨by rw [HV.out]; rfl, HB.out⟩
     | succ k1 =>
      have c1 : decide (x < (l0.length : Int)) = true := decide_eq_true (by have := HX.out; omega); have hx0 : 0 ≤ x := by have := HX.out; omega
      have hx1 : x ≤ 9 := by have := HX.out; have := HLEN.out; omega
      go_wp2
      go_loopg [5] (l0.length - (x.toNat + 1)) (fun gk v5 wr => ∃ y : Int, v5 = .int .i64 y ∧ Aside0 (x + 1 ≤ y ∧ y + gk = l0.length) ∧ Aside0 (Below w.heap.size w wr) ∧ Aside0 (∀ z : Int, x < z → z < y → impl_PolygonOk.pair l0 x z = true))
      case atStart => exact ⟨x + 1, by first | rfl | (simp; done), ⟨by have := HX.out; omega⟩, HB, ⟨fun z h1 h2 => by omega⟩⟩
      case round =>
       obtain ⟨y, rfl, HY, HB, HM⟩ := hrel
       cases gk with
       | zero =>
        have c2 : decide (y < (l0.length : Int)) = false := decide_eq_false (by have := HY.out; omega); have HR := Ak (impl_PolygonOk.row_of' (l := l0) hx0 (fun z h1 h2 => HM.out z h1 (by have := HY.out; omega)))
        go_wp2
        go_roundg k1
        case measure => exact Nat.lt_succ_self _
        case rel =>
         refine ⟨x + 1, by first | rfl | (simp; done), ⟨by have := HX.out; omega⟩, HB, ⟨fun i hi => ?_⟩⟩
         rcases Int.lt_or_eq_of_le (show (i : Int) ≤ x by omega) with h | h
         ·exact HN.out i h
         ·have e : i = x.toNat := by omega
          rw [e]; exact HR.out
       | succ k2 =>
        have c2 : decide (y < (l0.length : Int)) = true := decide_eq_true (by have := HY.out; omega); have hy0 : 1 ≤ y := by have := HY.out; omega
        have hy1 : y ≤ 9 := by have := HY.out; have := HLEN.out; omega
        obtain ⟨W, HWE⟩ : ∃ W, Aside0 (impl_PolygonOk.want l0.length x y = W) := ⟨_, ⟨rfl⟩⟩
        go_upto_region 11 with fail
        go_cut [48] (fun s48 wc => s48 = .bool W ∧ Aside0 (Below w.heap.size w wc))
        case first =>
         by_cases q1 : y = x + 1
         ·have HW := Ak (show impl_PolygonOk.want l0.length x y = true by unfold impl_PolygonOk.want; rw [decide_eq_true q1]; rfl); have q1b : (y == x + 1) = true := beq_iff_eq.mpr q1; clear q1
          go_wp2
          go_meet
          exact ⟨by rw [← HWE.out, HW.out], HB⟩
         ·have q1b : (y == x + 1) = false := beq_eq_false_iff_ne.mpr q1
          by_cases q2 : x = 0
          ·have q2b : (x == 0) = true := beq_iff_eq.mpr q2
           by_cases q3 : y = (l0.length : Int) - 1
           ·have HW := Ak (show impl_PolygonOk.want l0.length x y = true by unfold impl_PolygonOk.want; rw [decide_eq_true q2, decide_eq_true q3]; simp); have q3b : (y == wrap64 ((l0.length : Int) - 1)) = true := by rw [wrap64_id (by omega) (by have := HLEN.out; omega)]; exact beq_iff_eq.mpr q3
            clear q1 q2 q3
            go_wp2
            go_meet
            exact ⟨by rw [← HWE.out, HW.out], HB⟩
           ·have HW := Ak (show impl_PolygonOk.want l0.length x y = false by unfold impl_PolygonOk.want; rw [decide_eq_false q1, decide_eq_false q3]; simp); have q3b : (y == wrap64 ((l0.length : Int) - 1)) = false := by rw [wrap64_id (by omega) (by have := HLEN.out; omega)]; exact beq_eq_false_iff_ne.mpr q3
            clear q1 q2 q3
            go_wp2
            go_meet
            exact ⟨by rw [← HWE.out, HW.out], HB⟩
          ·have HW := Ak (show impl_PolygonOk.want l0.length x y = false by unfold impl_PolygonOk.want; rw [decide_eq_false q1, decide_eq_false q2]; simp); have q2b : (x == 0) = false := beq_eq_false_iff_ne.mpr q2; clear q1 q2
           go_wp2
           go_meet
           exact ⟨by rw [← HWE.out, HW.out], HB⟩
        case rest =>
         clear HB; obtain ⟨rfl, HB⟩ := hcut
         go_upto_if 48 with fail
         go_cut [6] (fun s6 wc => ∃ wt : Int, s6 = .int .i64 wt ∧ Aside0 ((if W = true then (1 : Int) else 0) = wt) ∧ Aside0 (Below w.heap.size w wc))
         case first =>
          cases W
          ·go_wp2
           go_meet
           exact ⟨0, rfl, ⟨rfl⟩, HB⟩
          ·go_wp2
           go_meet
           exact ⟨1, rfl, ⟨rfl⟩, HB⟩
         case rest =>
          clear HB; obtain ⟨wt, rfl, HWT, HB⟩ := hcut; obtain ⟨j, HJ⟩ : ∃ j : Int, Aside0 ((y + 1) % (l0.length : Int) = j) := ⟨_, ⟨rfl⟩⟩; have hj1 : Int.tmod (wrap64 (y + 1)) (l0.length : Int) = j := by rw [← HJ.out, wrap64_id (by omega) (by omega)]; exact Int.tmod_eq_emod_of_nonneg (by omega)
          obtain ⟨i1, HI1⟩ : ∃ i1 : Int, Aside0 (x + 1 = i1) := ⟨_, ⟨rfl⟩⟩; have hi1 : wrap64 (x + 1) = i1 := by rw [← HI1.out]; exact wrap64_id (by omega) (by omega)
          have hnz : ((l0.length : Int) == 0) = false := beq_eq_false_iff_ne.mpr (by have := HLEN.out; omega); have hnz2 : ¬ ((l0.length : Int) = 0) := by have := HLEN.out; omega
          have hnz3 : ¬ (l0 = []) := fun h_ => hnz2 (by rw [h_]; rfl)
          have a0 : 0 ≤ x := by have := HX.out; omega
          have b0 : x < (l0.length : Int) := by have := HY.out; omega
          obtain ⟨ad0, ead0, u00_, u01_⟩ := at_T27 HR0.out (x) a0 b0; subst ead0; generalize Hp : rd_T27 l0 x = p at u00_ u01_; replace Hp := Ak Hp; have a1 : 0 ≤ i1 := by rw [← HI1.out]; have := HX.out; omega
          have b1 : i1 < (l0.length : Int) := by rw [← HI1.out]; have := HY.out; omega
          obtain ⟨ad1, ead1, u10_, u11_⟩ := at_T27 HR0.out (i1) a1 b1; obtain rfl : ad0 = ad1 := (by injection ead1); generalize Hq : rd_T27 l0 i1 = q at u10_ u11_; replace Hq := Ak Hq; have a2 : 0 ≤ y := by have := HY.out; omega
          have b2 : y < (l0.length : Int) := by have := HY.out; omega
          obtain ⟨ad2, ead2, u20_, u21_⟩ := at_T27 HR0.out (y) a2 b2; obtain rfl : ad0 = ad2 := (by injection ead2); generalize Hs : rd_T27 l0 y = s at u20_ u21_; replace Hs := Ak Hs; have a3 : 0 ≤ j := by rw [← HJ.out]; first | exact Int.emod_nonneg _ hnz2 | exact Int.emod_lt_of_pos _ (by have := HLEN.out; omega)
          have b3 : j < (l0.length : Int) := by rw [← HJ.out]; first | exact Int.emod_nonneg _ hnz2 | exact Int.emod_lt_of_pos _ (by have := HLEN.out; omega)
          obtain ⟨ad3, ead3, u30_, u31_⟩ := at_T27 HR0.out (j) a3 b3; obtain rfl : ad0 = ad3 := (by injection ead3); generalize Ht : rd_T27 l0 j = t at u30_ u31_; replace Ht := Ak Ht; have HS : Aside0 (∀ w' : World, Below w.heap.size w w' → (fun w' => w'.cell? (ad0.add (x.toNat * 2)) = some (.int .i64 p.f0) ∧ w'.cell? ⟨(ad0.add (x.toNat * 2)).block, (ad0.add (x.toNat * 2)).off + 1, none⟩ = some (.int .i64 p.f1) ∧ w'.cell? (ad0.add (i1.toNat * 2)) = some (.int .i64 q.f0) ∧ w'.cell? ⟨(ad0.add (i1.toNat * 2)).block, (ad0.add (i1.toNat * 2)).off + 1, none⟩ = some (.int .i64 q.f1) ∧ w'.cell? (ad0.add (y.toNat * 2)) = some (.int .i64 s.f0) ∧ w'.cell? ⟨(ad0.add (y.toNat * 2)).block, (ad0.add (y.toNat * 2)).off + 1, none⟩ = some (.int .i64 s.f1) ∧ w'.cell? (ad0.add (j.toNat * 2)) = some (.int .i64 t.f0) ∧ w'.cell? ⟨(ad0.add (j.toNat * 2)).block, (ad0.add (j.toNat * 2)).off + 1, none⟩ = some (.int .i64 t.f1)) w') := ⟨fun w' hb => ⟨(hb.cell (World.block_lt_of_cell? w _ u00_)).trans u00_, (hb.cell (World.block_lt_of_cell? w _ u01_)).trans u01_, (hb.cell (World.block_lt_of_cell? w _ u10_)).trans u10_, (hb.cell (World.block_lt_of_cell? w _ u11_)).trans u11_, (hb.cell (World.block_lt_of_cell? w _ u20_)).trans u20_, (hb.cell (World.block_lt_of_cell? w _ u21_)).trans u21_, (hb.cell (World.block_lt_of_cell? w _ u30_)).trans u30_, (hb.cell (World.block_lt_of_cell? w _ u31_)).trans u31_⟩⟩; clear u00_ u01_ u10_ u11_ u20_ u21_ u30_ u31_ ead1 ead2 ead3; replace a0 := eq_true a0; replace b0 := eq_true b0; replace a1 := eq_true a1; replace b1 := eq_true b1; replace a2 := eq_true a2; replace b2 := eq_true b2; replace a3 := eq_true a3; replace b3 := eq_true b3
          go_upto_region 13 with fail
          replace HB := Ak (below_step HB.out (below_drew1 (Below.refl _ wc))); refine start_ (n := 28) (S := fun w' => w'.cell? (ad0.add (x.toNat * 2)) = some (.int .i64 p.f0) ∧ w'.cell? ⟨(ad0.add (x.toNat * 2)).block, (ad0.add (x.toNat * 2)).off + 1, none⟩ = some (.int .i64 p.f1) ∧ w'.cell? (ad0.add (i1.toNat * 2)) = some (.int .i64 q.f0) ∧ w'.cell? ⟨(ad0.add (i1.toNat * 2)).block, (ad0.add (i1.toNat * 2)).off + 1, none⟩ = some (.int .i64 q.f1) ∧ w'.cell? (ad0.add (y.toNat * 2)) = some (.int .i64 s.f0) ∧ w'.cell? ⟨(ad0.add (y.toNat * 2)).block, (ad0.add (y.toNat * 2)).off + 1, none⟩ = some (.int .i64 s.f1) ∧ w'.cell? (ad0.add (j.toNat * 2)) = some (.int .i64 t.f0) ∧ w'.cell? ⟨(ad0.add (j.toNat * 2)).block, (ad0.add (j.toNat * 2)).off + 1, none⟩ = some (.int .i64 t.f1)) (ds := []) #[F,F,F,F,F,F,F,F,F,F,F,F,F,F,F,F,F,F,F,F,F,F,F,F,F,F,F,F] (by kernel_rfl) rfl rfl (HS.out _ HB.out) (fun hHeld => ?_); generalize wc.drew = wd at HB hHeld ⊢; refine pure_ (i := 0) (N := some 49) (v := ?_) (a' := ?_) #[T,F,F,F,F,F,F,F,F,F,F,F,F,F,F,F,F,F,F,F,F,F,F,F,F,F,F,F] rfl rfl (by kernel_rfl) (fun _ _ _ h => h) (Or.inl ⟨by rfl, ?_⟩) ?_ ?_; rotate_left
          ·intro w'; go_simp; with_reducible rfl
          rotate_left
          ·simp only [Act.put, sA, sB, sC, sD, sE]; rfl
          refine pure_ (i := 1) (N := some 50) (v := ?_) (a' := ?_) #[T,T,F,F,F,F,F,F,F,F,F,F,F,F,F,F,F,F,F,F,F,F,F,F,F,F,F,F] rfl rfl (by kernel_rfl) (fun _ _ _ h => h) (Or.inl ⟨by rfl, ?_⟩) ?_ ?_; rotate_left
          ·intro w'; go_simp; with_reducible rfl
          rotate_left
          ·simp only [Act.put, sA, sB, sC, sD, sE]; rfl
          refine pure_ (i := 2) (N := some 51) (v := ?_) (a' := ?_) #[T,T,T,F,F,F,F,F,F,F,F,F,F,F,F,F,F,F,F,F,F,F,F,F,F,F,F,F] rfl rfl (by kernel_rfl) (fun _ _ _ h => h) (Or.inl ⟨by rfl, ?_⟩) ?_ ?_; rotate_left
          ·intro w'; go_simp; with_reducible rfl
          rotate_left
          ·simp only [Act.put, sA, sB, sC, sD, sE]; rfl
          refine take_ (i := 3) (N := some 52) (v := ?_) (a' := ?_) #[T,T,T,T,F,F,F,F,F,F,F,F,F,F,F,F,F,F,F,F,F,F,F,F,F,F,F,F] rfl rfl (by kernel_rfl) (fun _ _ _ h => h) (Or.inl ⟨by rfl, ?_⟩) hHeld ?_ ?_; rotate_left
          ·rintro w' ⟨q0, q1, q2, q3, q4, q5, q6, q7⟩; go_simp; with_reducible rfl
          rotate_left
          ·simp only [Act.put, sA, sB, sC, sD, sE]; rfl
          refine pure_ (i := 4) (N := some 53) (v := ?_) (a' := ?_) #[T,T,T,T,T,F,F,F,F,F,F,F,F,F,F,F,F,F,F,F,F,F,F,F,F,F,F,F] rfl rfl (by kernel_rfl) (fun _ _ _ h => h) (Or.inl ⟨by rfl, ?_⟩) ?_ ?_; rotate_left
          ·intro w'; go_simp; with_reducible rfl
          rotate_left
          ·simp only [Act.put, sA, sB, sC, sD, sE]; rfl
          refine pure_ (i := 5) (N := some 54) (v := ?_) (a' := ?_) #[T,T,T,T,T,T,F,F,F,F,F,F,F,F,F,F,F,F,F,F,F,F,F,F,F,F,F,F] rfl rfl (by kernel_rfl) (fun _ _ _ h => h) (Or.inl ⟨by rfl, ?_⟩) ?_ ?_; rotate_left
          ·intro w'; go_simp; with_reducible rfl
          rotate_left
          ·simp only [Act.put, sA, sB, sC, sD, sE]; rfl
          refine pure_ (i := 6) (N := some 55) (v := ?_) (a' := ?_) #[T,T,T,T,T,T,T,F,F,F,F,F,F,F,F,F,F,F,F,F,F,F,F,F,F,F,F,F] rfl rfl (by kernel_rfl) (fun _ _ _ h => h) (Or.inl ⟨by rfl, ?_⟩) ?_ ?_; rotate_left
          ·intro w'; go_simp; with_reducible rfl
          rotate_left
          ·simp only [Act.put, sA, sB, sC, sD, sE]; rfl
          refine pure_ (i := 7) (N := some 56) (v := ?_) (a' := ?_) #[T,T,T,T,T,T,T,T,F,F,F,F,F,F,F,F,F,F,F,F,F,F,F,F,F,F,F,F] rfl rfl (by kernel_rfl) (fun _ _ _ h => h) (Or.inl ⟨by rfl, ?_⟩) ?_ ?_; rotate_left
          ·intro w'; go_simp; with_reducible rfl
          rotate_left
          ·simp only [Act.put, sA, sB, sC, sD, sE]; rfl
          refine take_ (i := 8) (N := some 57) (v := ?_) (a' := ?_) #[T,T,T,T,T,T,T,T,T,F,F,F,F,F,F,F,F,F,F,F,F,F,F,F,F,F,F,F] rfl rfl (by kernel_rfl) (fun _ _ _ h => h) (Or.inl ⟨by rfl, ?_⟩) hHeld ?_ ?_; rotate_left
          ·rintro w' ⟨q0, q1, q2, q3, q4, q5, q6, q7⟩; go_simp; with_reducible rfl
          rotate_left
          ·simp only [Act.put, sA, sB, sC, sD, sE]; rfl
          refine pure_ (i := 9) (N := some 58) (v := ?_) (a' := ?_) #[T,T,T,T,T,T,T,T,T,T,F,F,F,F,F,F,F,F,F,F,F,F,F,F,F,F,F,F] rfl rfl (by kernel_rfl) (fun _ _ _ h => h) (Or.inl ⟨by rfl, ?_⟩) ?_ ?_; rotate_left
          ·intro w'; go_simp; with_reducible rfl
          rotate_left
          ·simp only [Act.put, sA, sB, sC, sD, sE]; rfl
          refine pure_ (i := 10) (N := some 59) (v := ?_) (a' := ?_) #[T,T,T,T,T,T,T,T,T,T,T,F,F,F,F,F,F,F,F,F,F,F,F,F,F,F,F,F] rfl rfl (by kernel_rfl) (fun _ _ _ h => h) (Or.inl ⟨by rfl, ?_⟩) ?_ ?_; rotate_left
          ·intro w'; go_simp; with_reducible rfl
          rotate_left
          ·simp only [Act.put, sA, sB, sC, sD, sE]; rfl
          refine pure_ (i := 11) (N := some 60) (v := ?_) (a' := ?_) #[T,T,T,T,T,T,T,T,T,T,T,T,F,F,F,F,F,F,F,F,F,F,F,F,F,F,F,F] rfl rfl (by kernel_rfl) (fun _ _ _ h => h) (Or.inl ⟨by rfl, ?_⟩) ?_ ?_; rotate_left
          ·intro w'; go_simp; with_reducible rfl
          rotate_left
          ·simp only [Act.put, sA, sB, sC, sD, sE]; rfl
          refine take_ (i := 12) (N := some 61) (v := ?_) (a' := ?_) #[T,T,T,T,T,T,T,T,T,T,T,T,T,F,F,F,F,F,F,F,F,F,F,F,F,F,F,F] rfl rfl (by kernel_rfl) (fun _ _ _ h => h) (Or.inl ⟨by rfl, ?_⟩) hHeld ?_ ?_; rotate_left
          ·rintro w' ⟨q0, q1, q2, q3, q4, q5, q6, q7⟩; go_simp; with_reducible rfl
          rotate_left
          ·simp only [Act.put, sA, sB, sC, sD, sE]; rfl
          refine pure_ (i := 13) (N := some 62) (v := ?_) (a' := ?_) #[T,T,T,T,T,T,T,T,T,T,T,T,T,T,F,F,F,F,F,F,F,F,F,F,F,F,F,F] rfl rfl (by kernel_rfl) (fun _ _ _ h => h) (Or.inl ⟨by rfl, ?_⟩) ?_ ?_; rotate_left
          ·intro w'; go_simp; with_reducible rfl
          rotate_left
          ·simp only [Act.put, sA, sB, sC, sD, sE]; rfl
          refine pure_ (i := 14) (N := some 63) (v := ?_) (a' := ?_) #[T,T,T,T,T,T,T,T,T,T,T,T,T,T,T,F,F,F,F,F,F,F,F,F,F,F,F,F] rfl rfl (by kernel_rfl) (fun _ _ _ h => h) (Or.inl ⟨by rfl, ?_⟩) ?_ ?_; rotate_left
          ·intro w'; go_simp; with_reducible rfl
          rotate_left
          ·simp only [Act.put, sA, sB, sC, sD, sE]; rfl
          refine pure_ (i := 15) (N := some 64) (v := ?_) (a' := ?_) #[T,T,T,T,T,T,T,T,T,T,T,T,T,T,T,T,F,F,F,F,F,F,F,F,F,F,F,F] rfl rfl (by kernel_rfl) (fun _ _ _ h => h) (Or.inl ⟨by rfl, ?_⟩) ?_ ?_; rotate_left
          ·intro w'; go_simp; with_reducible rfl
          rotate_left
          ·simp only [Act.put, sA, sB, sC, sD, sE]; rfl
          refine pure_ (i := 16) (N := some 65) (v := ?_) (a' := ?_) #[T,T,T,T,T,T,T,T,T,T,T,T,T,T,T,T,T,F,F,F,F,F,F,F,F,F,F,F] rfl rfl (by kernel_rfl) (fun _ _ _ h => h) (Or.inl ⟨by rfl, ?_⟩) ?_ ?_; rotate_left
          ·intro w'; go_simp; with_reducible rfl
          rotate_left
          ·simp only [Act.put, sA, sB, sC, sD, sE]; rfl
          refine pure_ (i := 17) (N := some 66) (v := ?_) (a' := ?_) #[T,T,T,T,T,T,T,T,T,T,T,T,T,T,T,T,T,T,F,F,F,F,F,F,F,F,F,F] rfl rfl (by kernel_rfl) (fun _ _ _ h => h) (Or.inl ⟨by rfl, ?_⟩) ?_ ?_; rotate_left
          ·intro w'; go_simp; with_reducible rfl
          rotate_left
          ·simp only [Act.put, sA, sB, sC, sD, sE]; rfl
          refine pure_ (i := 18) (N := some 67) (v := ?_) (a' := ?_) #[T,T,T,T,T,T,T,T,T,T,T,T,T,T,T,T,T,T,T,F,F,F,F,F,F,F,F,F] rfl rfl (by kernel_rfl) (fun _ _ _ h => h) (Or.inl ⟨by rfl, ?_⟩) ?_ ?_; rotate_left
          ·intro w'; go_simp; with_reducible rfl
          rotate_left
          ·simp only [Act.put, sA, sB, sC, sD, sE]; rfl
          refine take_ (i := 19) (N := some 68) (v := ?_) (a' := ?_) #[T,T,T,T,T,T,T,T,T,T,T,T,T,T,T,T,T,T,T,T,F,F,F,F,F,F,F,F] rfl rfl (by kernel_rfl) (fun _ _ _ h => h) (Or.inl ⟨by rfl, ?_⟩) hHeld ?_ ?_; rotate_left
          ·rintro w' ⟨q0, q1, q2, q3, q4, q5, q6, q7⟩; go_simp; with_reducible rfl
          rotate_left
          ·simp only [Act.put, sA, sB, sC, sD, sE]; rfl
          refine join_ (σ := Nat × Nat × Nat × Nat) 4 #[T,T,T,T,T,T,T,T,T,T,T,T,T,T,T,T,T,T,T,T,T,T,T,T,F,F,F,F] (fun s_ => [(7, .pointer (some ⟨s_.1, 0, none⟩)), (8, .pointer (some ⟨s_.2.1, 0, none⟩)), (9, .pointer (some ⟨s_.2.2.1, 0, none⟩)), (10, .pointer (some ⟨s_.2.2.2, 0, none⟩))]) (fun s_ w' => impl_PolygonOk.Fr w w' [s_.1, s_.2.1, s_.2.2.1, s_.2.2.2]) ?_ ?_; rotate_left
          ·intro HJN; have F0 := Ak (show impl_PolygonOk.Fr w wd [] from ⟨HB.out, List.nodup_nil, fun _ h => absurd h (List.not_mem_nil)⟩); refine four_ (i := 20) (j := 21) (k := 22) (m := 23) (Ni := some 7) (Nj := some 8) (Nk := some 9) (Nm := some 10) #[T,T,T,T,T,T,T,T,T,T,T,T,T,T,T,T,T,T,T,T,T,F,F,F,F,F,F,F] #[T,T,T,T,T,T,T,T,T,T,T,T,T,T,T,T,T,T,T,T,F,T,F,F,F,F,F,F] #[T,T,T,T,T,T,T,T,T,T,T,T,T,T,T,T,T,T,T,T,F,F,T,F,F,F,F,F] #[T,T,T,T,T,T,T,T,T,T,T,T,T,T,T,T,T,T,T,T,F,F,F,T,F,F,F,F] rfl rfl rfl rfl  rfl rfl rfl rfl  (by kernel_rfl) (by decide) (by decide) (by decide) (by decide)  (fun K hK => ?_) (fun K hK => ?_) (fun K hK => ?_) (fun K hK => ?_)
           ·skip
            refine box_step ?hg (N := 7) ?hd (cs := #[.int .i64 0, .int .i64 0]) (t := 27) ?hr ?_; (case hd | hg => rfl); (case hr => first | (go_simp; done) | (go_simp; rfl)); intro g7 hg w' hbox hb; have F1 := Ak (F0.out.step hg hbox hb); clear hg hbox hb; refine hK.out _ _ (HS.out _ F1.out.1) (fun _ => ?_); clear hK K; refine norm_ (a' := ?_) ?_ ?_; rotate_left
            ·show Act.put _ (some 7) _ = _; simp only [Act.put, sA, sB, sC, sD, sE]; rfl
            refine three_ (i := 21) (j := 22) (k := 23) (Ni := some 8) (Nj := some 9) (Nk := some 10) #[T,T,T,T,T,T,T,T,T,T,T,T,T,T,T,T,T,T,T,T,T,T,F,F,F,F,F,F] #[T,T,T,T,T,T,T,T,T,T,T,T,T,T,T,T,T,T,T,T,T,F,T,F,F,F,F,F] #[T,T,T,T,T,T,T,T,T,T,T,T,T,T,T,T,T,T,T,T,T,F,F,T,F,F,F,F] rfl rfl rfl  rfl rfl rfl  (by kernel_rfl) (by decide) (by decide) (by decide)  (fun K hK => ?_) (fun K hK => ?_) (fun K hK => ?_)
            ·skip
             refine box_step ?hg (N := 8) ?hd (cs := #[.int .i64 0, .int .i64 0]) (t := 27) ?hr ?_; (case hd | hg => rfl); (case hr => first | (go_simp; done) | (go_simp; rfl)); intro g8 hg w' hbox hb; have F2 := Ak (F1.out.step hg hbox hb); clear hg hbox hb; refine hK.out _ _ (HS.out _ F2.out.1) (fun _ => ?_); clear hK K; refine norm_ (a' := ?_) ?_ ?_; rotate_left
             ·show Act.put _ (some 8) _ = _; simp only [Act.put, sA, sB, sC, sD, sE]; rfl
             refine two_ (i := 22) (j := 23) (Ni := some 9) (Nj := some 10) #[T,T,T,T,T,T,T,T,T,T,T,T,T,T,T,T,T,T,T,T,T,T,T,F,F,F,F,F] #[T,T,T,T,T,T,T,T,T,T,T,T,T,T,T,T,T,T,T,T,T,T,F,T,F,F,F,F] rfl rfl  rfl rfl  (by kernel_rfl) (by decide) (by decide)  (fun K hK => ?_) (fun K hK => ?_)
             ·skip
              refine box_step ?hg (N := 9) ?hd (cs := #[.int .i64 0, .int .i64 0]) (t := 27) ?hr ?_; (case hd | hg => rfl); (case hr => first | (go_simp; done) | (go_simp; rfl)); intro g9 hg w' hbox hb; have F3 := Ak (F2.out.step hg hbox hb); clear hg hbox hb; refine hK.out _ _ (HS.out _ F3.out.1) (fun _ => ?_); clear hK K; refine norm_ (a' := ?_) ?_ ?_; rotate_left
              ·show Act.put _ (some 9) _ = _; simp only [Act.put, sA, sB, sC, sD, sE]; rfl
              refine one_ (i := 23) (N := some 10) #[T,T,T,T,T,T,T,T,T,T,T,T,T,T,T,T,T,T,T,T,T,T,T,T,F,F,F,F] rfl  rfl  (by kernel_rfl) (by decide)  (fun K hK => ?_); refine box_step ?hg (N := 10) ?hd (cs := #[.int .i64 0, .int .i64 0]) (t := 27) ?hr ?_; (case hd | hg => rfl); (case hr => first | (go_simp; done) | (go_simp; rfl)); intro g10 hg w' hbox hb; have F4 := Ak (F3.out.step hg hbox hb); clear hg hbox hb; refine hK.out _ _ (HS.out _ F4.out.1) (fun _ => ?_); clear hK K; refine norm_ (a' := ?_) ?_ ?_; rotate_left
              ·show Act.put _ (some 10) _ = _; simp only [Act.put, sA, sB, sC, sD, sE]; rfl
              exact norm_ (by first | (simp only [putAll, Act.put, List.setIfInBounds_toArray, List.set_cons_zero, List.set_cons_succ]; done) | (simp only [putAll, Act.put, List.setIfInBounds_toArray, List.set_cons_zero, List.set_cons_succ]; rfl)) (HJN (g7, g8, g9, g10) _ (F4.out.sort (by have h := F4.out.2.1; simp only [List.nodup_cons, List.mem_cons, List.not_mem_nil, or_false, not_or, List.nodup_nil, not_false_eq_true, and_true] at h ⊢; omega) (by intro z hz; simp only [List.mem_cons, List.not_mem_nil, or_false] at hz ⊢; omega)))
             ·skip
              refine box_step ?hg (N := 10) ?hd (cs := #[.int .i64 0, .int .i64 0]) (t := 27) ?hr ?_; (case hd | hg => rfl); (case hr => first | (go_simp; done) | (go_simp; rfl)); intro g10 hg w' hbox hb; have F3 := Ak (F2.out.step hg hbox hb); clear hg hbox hb; refine hK.out _ _ (HS.out _ F3.out.1) (fun _ => ?_); clear hK K; refine norm_ (a' := ?_) ?_ ?_; rotate_left
              ·show Act.put _ (some 10) _ = _; simp only [Act.put, sA, sB, sC, sD, sE]; rfl
              refine one_ (i := 22) (N := some 9) #[T,T,T,T,T,T,T,T,T,T,T,T,T,T,T,T,T,T,T,T,T,T,T,T,F,F,F,F] rfl  rfl  (by kernel_rfl) (by decide)  (fun K hK => ?_); refine box_step ?hg (N := 9) ?hd (cs := #[.int .i64 0, .int .i64 0]) (t := 27) ?hr ?_; (case hd | hg => rfl); (case hr => first | (go_simp; done) | (go_simp; rfl)); intro g9 hg w' hbox hb; have F4 := Ak (F3.out.step hg hbox hb); clear hg hbox hb; refine hK.out _ _ (HS.out _ F4.out.1) (fun _ => ?_); clear hK K; refine norm_ (a' := ?_) ?_ ?_; rotate_left
              ·show Act.put _ (some 9) _ = _; simp only [Act.put, sA, sB, sC, sD, sE]; rfl
              exact norm_ (by first | (simp only [putAll, Act.put, List.setIfInBounds_toArray, List.set_cons_zero, List.set_cons_succ]; done) | (simp only [putAll, Act.put, List.setIfInBounds_toArray, List.set_cons_zero, List.set_cons_succ]; rfl)) (HJN (g7, g8, g9, g10) _ (F4.out.sort (by have h := F4.out.2.1; simp only [List.nodup_cons, List.mem_cons, List.not_mem_nil, or_false, not_or, List.nodup_nil, not_false_eq_true, and_true] at h ⊢; omega) (by intro z hz; simp only [List.mem_cons, List.not_mem_nil, or_false] at hz ⊢; omega)))
            ·skip
             refine box_step ?hg (N := 9) ?hd (cs := #[.int .i64 0, .int .i64 0]) (t := 27) ?hr ?_; (case hd | hg => rfl); (case hr => first | (go_simp; done) | (go_simp; rfl)); intro g9 hg w' hbox hb; have F2 := Ak (F1.out.step hg hbox hb); clear hg hbox hb; refine hK.out _ _ (HS.out _ F2.out.1) (fun _ => ?_); clear hK K; refine norm_ (a' := ?_) ?_ ?_; rotate_left
             ·show Act.put _ (some 9) _ = _; simp only [Act.put, sA, sB, sC, sD, sE]; rfl
             refine two_ (i := 21) (j := 23) (Ni := some 8) (Nj := some 10) #[T,T,T,T,T,T,T,T,T,T,T,T,T,T,T,T,T,T,T,T,T,T,T,F,F,F,F,F] #[T,T,T,T,T,T,T,T,T,T,T,T,T,T,T,T,T,T,T,T,T,F,T,T,F,F,F,F] rfl rfl  rfl rfl  (by kernel_rfl) (by decide) (by decide)  (fun K hK => ?_) (fun K hK => ?_)
             ·skip
              refine box_step ?hg (N := 8) ?hd (cs := #[.int .i64 0, .int .i64 0]) (t := 27) ?hr ?_; (case hd | hg => rfl); (case hr => first | (go_simp; done) | (go_simp; rfl)); intro g8 hg w' hbox hb; have F3 := Ak (F2.out.step hg hbox hb); clear hg hbox hb; refine hK.out _ _ (HS.out _ F3.out.1) (fun _ => ?_); clear hK K; refine norm_ (a' := ?_) ?_ ?_; rotate_left
              ·show Act.put _ (some 8) _ = _; simp only [Act.put, sA, sB, sC, sD, sE]; rfl
              refine one_ (i := 23) (N := some 10) #[T,T,T,T,T,T,T,T,T,T,T,T,T,T,T,T,T,T,T,T,T,T,T,T,F,F,F,F] rfl  rfl  (by kernel_rfl) (by decide)  (fun K hK => ?_); refine box_step ?hg (N := 10) ?hd (cs := #[.int .i64 0, .int .i64 0]) (t := 27) ?hr ?_; (case hd | hg => rfl); (case hr => first | (go_simp; done) | (go_simp; rfl)); intro g10 hg w' hbox hb; have F4 := Ak (F3.out.step hg hbox hb); clear hg hbox hb; refine hK.out _ _ (HS.out _ F4.out.1) (fun _ => ?_); clear hK K; refine norm_ (a' := ?_) ?_ ?_; rotate_left
              ·show Act.put _ (some 10) _ = _; simp only [Act.put, sA, sB, sC, sD, sE]; rfl
              exact norm_ (by first | (simp only [putAll, Act.put, List.setIfInBounds_toArray, List.set_cons_zero, List.set_cons_succ]; done) | (simp only [putAll, Act.put, List.setIfInBounds_toArray, List.set_cons_zero, List.set_cons_succ]; rfl)) (HJN (g7, g8, g9, g10) _ (F4.out.sort (by have h := F4.out.2.1; simp only [List.nodup_cons, List.mem_cons, List.not_mem_nil, or_false, not_or, List.nodup_nil, not_false_eq_true, and_true] at h ⊢; omega) (by intro z hz; simp only [List.mem_cons, List.not_mem_nil, or_false] at hz ⊢; omega)))
             ·skip
              refine box_step ?hg (N := 10) ?hd (cs := #[.int .i64 0, .int .i64 0]) (t := 27) ?hr ?_; (case hd | hg => rfl); (case hr => first | (go_simp; done) | (go_simp; rfl)); intro g10 hg w' hbox hb; have F3 := Ak (F2.out.step hg hbox hb); clear hg hbox hb; refine hK.out _ _ (HS.out _ F3.out.1) (fun _ => ?_); clear hK K; refine norm_ (a' := ?_) ?_ ?_; rotate_left
              ·show Act.put _ (some 10) _ = _; simp only [Act.put, sA, sB, sC, sD, sE]; rfl
              refine one_ (i := 21) (N := some 8) #[T,T,T,T,T,T,T,T,T,T,T,T,T,T,T,T,T,T,T,T,T,T,T,T,F,F,F,F] rfl  rfl  (by kernel_rfl) (by decide)  (fun K hK => ?_); refine box_step ?hg (N := 8) ?hd (cs := #[.int .i64 0, .int .i64 0]) (t := 27) ?hr ?_; (case hd | hg => rfl); (case hr => first | (go_simp; done) | (go_simp; rfl)); intro g8 hg w' hbox hb; have F4 := Ak (F3.out.step hg hbox hb); clear hg hbox hb; refine hK.out _ _ (HS.out _ F4.out.1) (fun _ => ?_); clear hK K; refine norm_ (a' := ?_) ?_ ?_; rotate_left
              ·show Act.put _ (some 8) _ = _; simp only [Act.put, sA, sB, sC, sD, sE]; rfl
              exact norm_ (by first | (simp only [putAll, Act.put, List.setIfInBounds_toArray, List.set_cons_zero, List.set_cons_succ]; done) | (simp only [putAll, Act.put, List.setIfInBounds_toArray, List.set_cons_zero, List.set_cons_succ]; rfl)) (HJN (g7, g8, g9, g10) _ (F4.out.sort (by have h := F4.out.2.1; simp only [List.nodup_cons, List.mem_cons, List.not_mem_nil, or_false, not_or, List.nodup_nil, not_false_eq_true, and_true] at h ⊢; omega) (by intro z hz; simp only [List.mem_cons, List.not_mem_nil, or_false] at hz ⊢; omega)))
            ·skip
             refine box_step ?hg (N := 10) ?hd (cs := #[.int .i64 0, .int .i64 0]) (t := 27) ?hr ?_; (case hd | hg => rfl); (case hr => first | (go_simp; done) | (go_simp; rfl)); intro g10 hg w' hbox hb; have F2 := Ak (F1.out.step hg hbox hb); clear hg hbox hb; refine hK.out _ _ (HS.out _ F2.out.1) (fun _ => ?_); clear hK K; refine norm_ (a' := ?_) ?_ ?_; rotate_left
             ·show Act.put _ (some 10) _ = _; simp only [Act.put, sA, sB, sC, sD, sE]; rfl
             refine two_ (i := 21) (j := 22) (Ni := some 8) (Nj := some 9) #[T,T,T,T,T,T,T,T,T,T,T,T,T,T,T,T,T,T,T,T,T,T,F,T,F,F,F,F] #[T,T,T,T,T,T,T,T,T,T,T,T,T,T,T,T,T,T,T,T,T,F,T,T,F,F,F,F] rfl rfl  rfl rfl  (by kernel_rfl) (by decide) (by decide)  (fun K hK => ?_) (fun K hK => ?_)
             ·skip
              refine box_step ?hg (N := 8) ?hd (cs := #[.int .i64 0, .int .i64 0]) (t := 27) ?hr ?_; (case hd | hg => rfl); (case hr => first | (go_simp; done) | (go_simp; rfl)); intro g8 hg w' hbox hb; have F3 := Ak (F2.out.step hg hbox hb); clear hg hbox hb; refine hK.out _ _ (HS.out _ F3.out.1) (fun _ => ?_); clear hK K; refine norm_ (a' := ?_) ?_ ?_; rotate_left
              ·show Act.put _ (some 8) _ = _; simp only [Act.put, sA, sB, sC, sD, sE]; rfl
              refine one_ (i := 22) (N := some 9) #[T,T,T,T,T,T,T,T,T,T,T,T,T,T,T,T,T,T,T,T,T,T,T,T,F,F,F,F] rfl  rfl  (by kernel_rfl) (by decide)  (fun K hK => ?_); refine box_step ?hg (N := 9) ?hd (cs := #[.int .i64 0, .int .i64 0]) (t := 27) ?hr ?_; (case hd | hg => rfl); (case hr => first | (go_simp; done) | (go_simp; rfl)); intro g9 hg w' hbox hb; have F4 := Ak (F3.out.step hg hbox hb); clear hg hbox hb; refine hK.out _ _ (HS.out _ F4.out.1) (fun _ => ?_); clear hK K; refine norm_ (a' := ?_) ?_ ?_; rotate_left
              ·show Act.put _ (some 9) _ = _; simp only [Act.put, sA, sB, sC, sD, sE]; rfl
              exact norm_ (by first | (simp only [putAll, Act.put, List.setIfInBounds_toArray, List.set_cons_zero, List.set_cons_succ]; done) | (simp only [putAll, Act.put, List.setIfInBounds_toArray, List.set_cons_zero, List.set_cons_succ]; rfl)) (HJN (g7, g8, g9, g10) _ (F4.out.sort (by have h := F4.out.2.1; simp only [List.nodup_cons, List.mem_cons, List.not_mem_nil, or_false, not_or, List.nodup_nil, not_false_eq_true, and_true] at h ⊢; omega) (by intro z hz; simp only [List.mem_cons, List.not_mem_nil, or_false] at hz ⊢; omega)))
             ·skip
              refine box_step ?hg (N := 9) ?hd (cs := #[.int .i64 0, .int .i64 0]) (t := 27) ?hr ?_; (case hd | hg => rfl); (case hr => first | (go_simp; done) | (go_simp; rfl)); intro g9 hg w' hbox hb; have F3 := Ak (F2.out.step hg hbox hb); clear hg hbox hb; refine hK.out _ _ (HS.out _ F3.out.1) (fun _ => ?_); clear hK K; refine norm_ (a' := ?_) ?_ ?_; rotate_left
              ·show Act.put _ (some 9) _ = _; simp only [Act.put, sA, sB, sC, sD, sE]; rfl
              refine one_ (i := 21) (N := some 8) #[T,T,T,T,T,T,T,T,T,T,T,T,T,T,T,T,T,T,T,T,T,T,T,T,F,F,F,F] rfl  rfl  (by kernel_rfl) (by decide)  (fun K hK => ?_); refine box_step ?hg (N := 8) ?hd (cs := #[.int .i64 0, .int .i64 0]) (t := 27) ?hr ?_; (case hd | hg => rfl); (case hr => first | (go_simp; done) | (go_simp; rfl)); intro g8 hg w' hbox hb; have F4 := Ak (F3.out.step hg hbox hb); clear hg hbox hb; refine hK.out _ _ (HS.out _ F4.out.1) (fun _ => ?_); clear hK K; refine norm_ (a' := ?_) ?_ ?_; rotate_left
              ·show Act.put _ (some 8) _ = _; simp only [Act.put, sA, sB, sC, sD, sE]; rfl
              exact norm_ (by first | (simp only [putAll, Act.put, List.setIfInBounds_toArray, List.set_cons_zero, List.set_cons_succ]; done) | (simp only [putAll, Act.put, List.setIfInBounds_toArray, List.set_cons_zero, List.set_cons_succ]; rfl)) (HJN (g7, g8, g9, g10) _ (F4.out.sort (by have h := F4.out.2.1; simp only [List.nodup_cons, List.mem_cons, List.not_mem_nil, or_false, not_or, List.nodup_nil, not_false_eq_true, and_true] at h ⊢; omega) (by intro z hz; simp only [List.mem_cons, List.not_mem_nil, or_false] at hz ⊢; omega)))
           ·skip
            refine box_step ?hg (N := 8) ?hd (cs := #[.int .i64 0, .int .i64 0]) (t := 27) ?hr ?_; (case hd | hg => rfl); (case hr => first | (go_simp; done) | (go_simp; rfl)); intro g8 hg w' hbox hb; have F1 := Ak (F0.out.step hg hbox hb); clear hg hbox hb; refine hK.out _ _ (HS.out _ F1.out.1) (fun _ => ?_); clear hK K; refine norm_ (a' := ?_) ?_ ?_; rotate_left
            ·show Act.put _ (some 8) _ = _; simp only [Act.put, sA, sB, sC, sD, sE]; rfl
            refine three_ (i := 20) (j := 22) (k := 23) (Ni := some 7) (Nj := some 9) (Nk := some 10) #[T,T,T,T,T,T,T,T,T,T,T,T,T,T,T,T,T,T,T,T,T,T,F,F,F,F,F,F] #[T,T,T,T,T,T,T,T,T,T,T,T,T,T,T,T,T,T,T,T,F,T,T,F,F,F,F,F] #[T,T,T,T,T,T,T,T,T,T,T,T,T,T,T,T,T,T,T,T,F,T,F,T,F,F,F,F] rfl rfl rfl  rfl rfl rfl  (by kernel_rfl) (by decide) (by decide) (by decide)  (fun K hK => ?_) (fun K hK => ?_) (fun K hK => ?_)
            ·skip
             refine box_step ?hg (N := 7) ?hd (cs := #[.int .i64 0, .int .i64 0]) (t := 27) ?hr ?_; (case hd | hg => rfl); (case hr => first | (go_simp; done) | (go_simp; rfl)); intro g7 hg w' hbox hb; have F2 := Ak (F1.out.step hg hbox hb); clear hg hbox hb; refine hK.out _ _ (HS.out _ F2.out.1) (fun _ => ?_); clear hK K; refine norm_ (a' := ?_) ?_ ?_; rotate_left
             ·show Act.put _ (some 7) _ = _; simp only [Act.put, sA, sB, sC, sD, sE]; rfl
             refine two_ (i := 22) (j := 23) (Ni := some 9) (Nj := some 10) #[T,T,T,T,T,T,T,T,T,T,T,T,T,T,T,T,T,T,T,T,T,T,T,F,F,F,F,F] #[T,T,T,T,T,T,T,T,T,T,T,T,T,T,T,T,T,T,T,T,T,T,F,T,F,F,F,F] rfl rfl  rfl rfl  (by kernel_rfl) (by decide) (by decide)  (fun K hK => ?_) (fun K hK => ?_)
             ·skip
              refine box_step ?hg (N := 9) ?hd (cs := #[.int .i64 0, .int .i64 0]) (t := 27) ?hr ?_; (case hd | hg => rfl); (case hr => first | (go_simp; done) | (go_simp; rfl)); intro g9 hg w' hbox hb; have F3 := Ak (F2.out.step hg hbox hb); clear hg hbox hb; refine hK.out _ _ (HS.out _ F3.out.1) (fun _ => ?_); clear hK K; refine norm_ (a' := ?_) ?_ ?_; rotate_left
              ·show Act.put _ (some 9) _ = _; simp only [Act.put, sA, sB, sC, sD, sE]; rfl
              refine one_ (i := 23) (N := some 10) #[T,T,T,T,T,T,T,T,T,T,T,T,T,T,T,T,T,T,T,T,T,T,T,T,F,F,F,F] rfl  rfl  (by kernel_rfl) (by decide)  (fun K hK => ?_); refine box_step ?hg (N := 10) ?hd (cs := #[.int .i64 0, .int .i64 0]) (t := 27) ?hr ?_; (case hd | hg => rfl); (case hr => first | (go_simp; done) | (go_simp; rfl)); intro g10 hg w' hbox hb; have F4 := Ak (F3.out.step hg hbox hb); clear hg hbox hb; refine hK.out _ _ (HS.out _ F4.out.1) (fun _ => ?_); clear hK K; refine norm_ (a' := ?_) ?_ ?_; rotate_left
              ·show Act.put _ (some 10) _ = _; simp only [Act.put, sA, sB, sC, sD, sE]; rfl
              exact norm_ (by first | (simp only [putAll, Act.put, List.setIfInBounds_toArray, List.set_cons_zero, List.set_cons_succ]; done) | (simp only [putAll, Act.put, List.setIfInBounds_toArray, List.set_cons_zero, List.set_cons_succ]; rfl)) (HJN (g7, g8, g9, g10) _ (F4.out.sort (by have h := F4.out.2.1; simp only [List.nodup_cons, List.mem_cons, List.not_mem_nil, or_false, not_or, List.nodup_nil, not_false_eq_true, and_true] at h ⊢; omega) (by intro z hz; simp only [List.mem_cons, List.not_mem_nil, or_false] at hz ⊢; omega)))
             ·skip
              refine box_step ?hg (N := 10) ?hd (cs := #[.int .i64 0, .int .i64 0]) (t := 27) ?hr ?_; (case hd | hg => rfl); (case hr => first | (go_simp; done) | (go_simp; rfl)); intro g10 hg w' hbox hb; have F3 := Ak (F2.out.step hg hbox hb); clear hg hbox hb; refine hK.out _ _ (HS.out _ F3.out.1) (fun _ => ?_); clear hK K; refine norm_ (a' := ?_) ?_ ?_; rotate_left
              ·show Act.put _ (some 10) _ = _; simp only [Act.put, sA, sB, sC, sD, sE]; rfl
              refine one_ (i := 22) (N := some 9) #[T,T,T,T,T,T,T,T,T,T,T,T,T,T,T,T,T,T,T,T,T,T,T,T,F,F,F,F] rfl  rfl  (by kernel_rfl) (by decide)  (fun K hK => ?_); refine box_step ?hg (N := 9) ?hd (cs := #[.int .i64 0, .int .i64 0]) (t := 27) ?hr ?_; (case hd | hg => rfl); (case hr => first | (go_simp; done) | (go_simp; rfl)); intro g9 hg w' hbox hb; have F4 := Ak (F3.out.step hg hbox hb); clear hg hbox hb; refine hK.out _ _ (HS.out _ F4.out.1) (fun _ => ?_); clear hK K; refine norm_ (a' := ?_) ?_ ?_; rotate_left
              ·show Act.put _ (some 9) _ = _; simp only [Act.put, sA, sB, sC, sD, sE]; rfl
              exact norm_ (by first | (simp only [putAll, Act.put, List.setIfInBounds_toArray, List.set_cons_zero, List.set_cons_succ]; done) | (simp only [putAll, Act.put, List.setIfInBounds_toArray, List.set_cons_zero, List.set_cons_succ]; rfl)) (HJN (g7, g8, g9, g10) _ (F4.out.sort (by have h := F4.out.2.1; simp only [List.nodup_cons, List.mem_cons, List.not_mem_nil, or_false, not_or, List.nodup_nil, not_false_eq_true, and_true] at h ⊢; omega) (by intro z hz; simp only [List.mem_cons, List.not_mem_nil, or_false] at hz ⊢; omega)))
            ·skip
             refine box_step ?hg (N := 9) ?hd (cs := #[.int .i64 0, .int .i64 0]) (t := 27) ?hr ?_; (case hd | hg => rfl); (case hr => first | (go_simp; done) | (go_simp; rfl)); intro g9 hg w' hbox hb; have F2 := Ak (F1.out.step hg hbox hb); clear hg hbox hb; refine hK.out _ _ (HS.out _ F2.out.1) (fun _ => ?_); clear hK K; refine norm_ (a' := ?_) ?_ ?_; rotate_left
             ·show Act.put _ (some 9) _ = _; simp only [Act.put, sA, sB, sC, sD, sE]; rfl
             refine two_ (i := 20) (j := 23) (Ni := some 7) (Nj := some 10) #[T,T,T,T,T,T,T,T,T,T,T,T,T,T,T,T,T,T,T,T,T,T,T,F,F,F,F,F] #[T,T,T,T,T,T,T,T,T,T,T,T,T,T,T,T,T,T,T,T,F,T,T,T,F,F,F,F] rfl rfl  rfl rfl  (by kernel_rfl) (by decide) (by decide)  (fun K hK => ?_) (fun K hK => ?_)
             ·skip
              refine box_step ?hg (N := 7) ?hd (cs := #[.int .i64 0, .int .i64 0]) (t := 27) ?hr ?_; (case hd | hg => rfl); (case hr => first | (go_simp; done) | (go_simp; rfl)); intro g7 hg w' hbox hb; have F3 := Ak (F2.out.step hg hbox hb); clear hg hbox hb; refine hK.out _ _ (HS.out _ F3.out.1) (fun _ => ?_); clear hK K; refine norm_ (a' := ?_) ?_ ?_; rotate_left
              ·show Act.put _ (some 7) _ = _; simp only [Act.put, sA, sB, sC, sD, sE]; rfl
              refine one_ (i := 23) (N := some 10) #[T,T,T,T,T,T,T,T,T,T,T,T,T,T,T,T,T,T,T,T,T,T,T,T,F,F,F,F] rfl  rfl  (by kernel_rfl) (by decide)  (fun K hK => ?_); refine box_step ?hg (N := 10) ?hd (cs := #[.int .i64 0, .int .i64 0]) (t := 27) ?hr ?_; (case hd | hg => rfl); (case hr => first | (go_simp; done) | (go_simp; rfl)); intro g10 hg w' hbox hb; have F4 := Ak (F3.out.step hg hbox hb); clear hg hbox hb; refine hK.out _ _ (HS.out _ F4.out.1) (fun _ => ?_); clear hK K; refine norm_ (a' := ?_) ?_ ?_; rotate_left
              ·show Act.put _ (some 10) _ = _; simp only [Act.put, sA, sB, sC, sD, sE]; rfl
              exact norm_ (by first | (simp only [putAll, Act.put, List.setIfInBounds_toArray, List.set_cons_zero, List.set_cons_succ]; done) | (simp only [putAll, Act.put, List.setIfInBounds_toArray, List.set_cons_zero, List.set_cons_succ]; rfl)) (HJN (g7, g8, g9, g10) _ (F4.out.sort (by have h := F4.out.2.1; simp only [List.nodup_cons, List.mem_cons, List.not_mem_nil, or_false, not_or, List.nodup_nil, not_false_eq_true, and_true] at h ⊢; omega) (by intro z hz; simp only [List.mem_cons, List.not_mem_nil, or_false] at hz ⊢; omega)))
             ·skip
              refine box_step ?hg (N := 10) ?hd (cs := #[.int .i64 0, .int .i64 0]) (t := 27) ?hr ?_; (case hd | hg => rfl); (case hr => first | (go_simp; done) | (go_simp; rfl)); intro g10 hg w' hbox hb; have F3 := Ak (F2.out.step hg hbox hb); clear hg hbox hb; refine hK.out _ _ (HS.out _ F3.out.1) (fun _ => ?_); clear hK K; refine norm_ (a' := ?_) ?_ ?_; rotate_left
              ·show Act.put _ (some 10) _ = _; simp only [Act.put, sA, sB, sC, sD, sE]; rfl
              refine one_ (i := 20) (N := some 7) #[T,T,T,T,T,T,T,T,T,T,T,T,T,T,T,T,T,T,T,T,T,T,T,T,F,F,F,F] rfl  rfl  (by kernel_rfl) (by decide)  (fun K hK => ?_); refine box_step ?hg (N := 7) ?hd (cs := #[.int .i64 0, .int .i64 0]) (t := 27) ?hr ?_; (case hd | hg => rfl); (case hr => first | (go_simp; done) | (go_simp; rfl)); intro g7 hg w' hbox hb; have F4 := Ak (F3.out.step hg hbox hb); clear hg hbox hb; refine hK.out _ _ (HS.out _ F4.out.1) (fun _ => ?_); clear hK K; refine norm_ (a' := ?_) ?_ ?_; rotate_left
              ·show Act.put _ (some 7) _ = _; simp only [Act.put, sA, sB, sC, sD, sE]; rfl
              exact norm_ (by first | (simp only [putAll, Act.put, List.setIfInBounds_toArray, List.set_cons_zero, List.set_cons_succ]; done) | (simp only [putAll, Act.put, List.setIfInBounds_toArray, List.set_cons_zero, List.set_cons_succ]; rfl)) (HJN (g7, g8, g9, g10) _ (F4.out.sort (by have h := F4.out.2.1; simp only [List.nodup_cons, List.mem_cons, List.not_mem_nil, or_false, not_or, List.nodup_nil, not_false_eq_true, and_true] at h ⊢; omega) (by intro z hz; simp only [List.mem_cons, List.not_mem_nil, or_false] at hz ⊢; omega)))
            ·skip
             refine box_step ?hg (N := 10) ?hd (cs := #[.int .i64 0, .int .i64 0]) (t := 27) ?hr ?_; (case hd | hg => rfl); (case hr => first | (go_simp; done) | (go_simp; rfl)); intro g10 hg w' hbox hb; have F2 := Ak (F1.out.step hg hbox hb); clear hg hbox hb; refine hK.out _ _ (HS.out _ F2.out.1) (fun _ => ?_); clear hK K; refine norm_ (a' := ?_) ?_ ?_; rotate_left
             ·show Act.put _ (some 10) _ = _; simp only [Act.put, sA, sB, sC, sD, sE]; rfl
             refine two_ (i := 20) (j := 22) (Ni := some 7) (Nj := some 9) #[T,T,T,T,T,T,T,T,T,T,T,T,T,T,T,T,T,T,T,T,T,T,F,T,F,F,F,F] #[T,T,T,T,T,T,T,T,T,T,T,T,T,T,T,T,T,T,T,T,F,T,T,T,F,F,F,F] rfl rfl  rfl rfl  (by kernel_rfl) (by decide) (by decide)  (fun K hK => ?_) (fun K hK => ?_)
             ·skip
              refine box_step ?hg (N := 7) ?hd (cs := #[.int .i64 0, .int .i64 0]) (t := 27) ?hr ?_; (case hd | hg => rfl); (case hr => first | (go_simp; done) | (go_simp; rfl)); intro g7 hg w' hbox hb; have F3 := Ak (F2.out.step hg hbox hb); clear hg hbox hb; refine hK.out _ _ (HS.out _ F3.out.1) (fun _ => ?_); clear hK K; refine norm_ (a' := ?_) ?_ ?_; rotate_left
              ·show Act.put _ (some 7) _ = _; simp only [Act.put, sA, sB, sC, sD, sE]; rfl
              refine one_ (i := 22) (N := some 9) #[T,T,T,T,T,T,T,T,T,T,T,T,T,T,T,T,T,T,T,T,T,T,T,T,F,F,F,F] rfl  rfl  (by kernel_rfl) (by decide)  (fun K hK => ?_); refine box_step ?hg (N := 9) ?hd (cs := #[.int .i64 0, .int .i64 0]) (t := 27) ?hr ?_; (case hd | hg => rfl); (case hr => first | (go_simp; done) | (go_simp; rfl)); intro g9 hg w' hbox hb; have F4 := Ak (F3.out.step hg hbox hb); clear hg hbox hb; refine hK.out _ _ (HS.out _ F4.out.1) (fun _ => ?_); clear hK K; refine norm_ (a' := ?_) ?_ ?_; rotate_left
              ·show Act.put _ (some 9) _ = _; simp only [Act.put, sA, sB, sC, sD, sE]; rfl
              exact norm_ (by first | (simp only [putAll, Act.put, List.setIfInBounds_toArray, List.set_cons_zero, List.set_cons_succ]; done) | (simp only [putAll, Act.put, List.setIfInBounds_toArray, List.set_cons_zero, List.set_cons_succ]; rfl)) (HJN (g7, g8, g9, g10) _ (F4.out.sort (by have h := F4.out.2.1; simp only [List.nodup_cons, List.mem_cons, List.not_mem_nil, or_false, not_or, List.nodup_nil, not_false_eq_true, and_true] at h ⊢; omega) (by intro z hz; simp only [List.mem_cons, List.not_mem_nil, or_false] at hz ⊢; omega)))
             ·skip
              refine box_step ?hg (N := 9) ?hd (cs := #[.int .i64 0, .int .i64 0]) (t := 27) ?hr ?_; (case hd | hg => rfl); (case hr => first | (go_simp; done) | (go_simp; rfl)); intro g9 hg w' hbox hb; have F3 := Ak (F2.out.step hg hbox hb); clear hg hbox hb; refine hK.out _ _ (HS.out _ F3.out.1) (fun _ => ?_); clear hK K; refine norm_ (a' := ?_) ?_ ?_; rotate_left
              ·show Act.put _ (some 9) _ = _; simp only [Act.put, sA, sB, sC, sD, sE]; rfl
              refine one_ (i := 20) (N := some 7) #[T,T,T,T,T,T,T,T,T,T,T,T,T,T,T,T,T,T,T,T,T,T,T,T,F,F,F,F] rfl  rfl  (by kernel_rfl) (by decide)  (fun K hK => ?_); refine box_step ?hg (N := 7) ?hd (cs := #[.int .i64 0, .int .i64 0]) (t := 27) ?hr ?_; (case hd | hg => rfl); (case hr => first | (go_simp; done) | (go_simp; rfl)); intro g7 hg w' hbox hb; have F4 := Ak (F3.out.step hg hbox hb); clear hg hbox hb; refine hK.out _ _ (HS.out _ F4.out.1) (fun _ => ?_); clear hK K; refine norm_ (a' := ?_) ?_ ?_; rotate_left
              ·show Act.put _ (some 7) _ = _; simp only [Act.put, sA, sB, sC, sD, sE]; rfl
              exact norm_ (by first | (simp only [putAll, Act.put, List.setIfInBounds_toArray, List.set_cons_zero, List.set_cons_succ]; done) | (simp only [putAll, Act.put, List.setIfInBounds_toArray, List.set_cons_zero, List.set_cons_succ]; rfl)) (HJN (g7, g8, g9, g10) _ (F4.out.sort (by have h := F4.out.2.1; simp only [List.nodup_cons, List.mem_cons, List.not_mem_nil, or_false, not_or, List.nodup_nil, not_false_eq_true, and_true] at h ⊢; omega) (by intro z hz; simp only [List.mem_cons, List.not_mem_nil, or_false] at hz ⊢; omega)))
           ·skip
            refine box_step ?hg (N := 9) ?hd (cs := #[.int .i64 0, .int .i64 0]) (t := 27) ?hr ?_; (case hd | hg => rfl); (case hr => first | (go_simp; done) | (go_simp; rfl)); intro g9 hg w' hbox hb; have F1 := Ak (F0.out.step hg hbox hb); clear hg hbox hb; refine hK.out _ _ (HS.out _ F1.out.1) (fun _ => ?_); clear hK K; refine norm_ (a' := ?_) ?_ ?_; rotate_left
            ·show Act.put _ (some 9) _ = _; simp only [Act.put, sA, sB, sC, sD, sE]; rfl
            refine three_ (i := 20) (j := 21) (k := 23) (Ni := some 7) (Nj := some 8) (Nk := some 10) #[T,T,T,T,T,T,T,T,T,T,T,T,T,T,T,T,T,T,T,T,T,F,T,F,F,F,F,F] #[T,T,T,T,T,T,T,T,T,T,T,T,T,T,T,T,T,T,T,T,F,T,T,F,F,F,F,F] #[T,T,T,T,T,T,T,T,T,T,T,T,T,T,T,T,T,T,T,T,F,F,T,T,F,F,F,F] rfl rfl rfl  rfl rfl rfl  (by kernel_rfl) (by decide) (by decide) (by decide)  (fun K hK => ?_) (fun K hK => ?_) (fun K hK => ?_)
            ·skip
             refine box_step ?hg (N := 7) ?hd (cs := #[.int .i64 0, .int .i64 0]) (t := 27) ?hr ?_; (case hd | hg => rfl); (case hr => first | (go_simp; done) | (go_simp; rfl)); intro g7 hg w' hbox hb; have F2 := Ak (F1.out.step hg hbox hb); clear hg hbox hb; refine hK.out _ _ (HS.out _ F2.out.1) (fun _ => ?_); clear hK K; refine norm_ (a' := ?_) ?_ ?_; rotate_left
             ·show Act.put _ (some 7) _ = _; simp only [Act.put, sA, sB, sC, sD, sE]; rfl
             refine two_ (i := 21) (j := 23) (Ni := some 8) (Nj := some 10) #[T,T,T,T,T,T,T,T,T,T,T,T,T,T,T,T,T,T,T,T,T,T,T,F,F,F,F,F] #[T,T,T,T,T,T,T,T,T,T,T,T,T,T,T,T,T,T,T,T,T,F,T,T,F,F,F,F] rfl rfl  rfl rfl  (by kernel_rfl) (by decide) (by decide)  (fun K hK => ?_) (fun K hK => ?_)
             ·skip
              refine box_step ?hg (N := 8) ?hd (cs := #[.int .i64 0, .int .i64 0]) (t := 27) ?hr ?_; (case hd | hg => rfl); (case hr => first | (go_simp; done) | (go_simp; rfl)); intro g8 hg w' hbox hb; have F3 := Ak (F2.out.step hg hbox hb); clear hg hbox hb; refine hK.out _ _ (HS.out _ F3.out.1) (fun _ => ?_); clear hK K; refine norm_ (a' := ?_) ?_ ?_; rotate_left
              ·show Act.put _ (some 8) _ = _; simp only [Act.put, sA, sB, sC, sD, sE]; rfl
              refine one_ (i := 23) (N := some 10) #[T,T,T,T,T,T,T,T,T,T,T,T,T,T,T,T,T,T,T,T,T,T,T,T,F,F,F,F] rfl  rfl  (by kernel_rfl) (by decide)  (fun K hK => ?_); refine box_step ?hg (N := 10) ?hd (cs := #[.int .i64 0, .int .i64 0]) (t := 27) ?hr ?_; (case hd | hg => rfl); (case hr => first | (go_simp; done) | (go_simp; rfl)); intro g10 hg w' hbox hb; have F4 := Ak (F3.out.step hg hbox hb); clear hg hbox hb; refine hK.out _ _ (HS.out _ F4.out.1) (fun _ => ?_); clear hK K; refine norm_ (a' := ?_) ?_ ?_; rotate_left
              ·show Act.put _ (some 10) _ = _; simp only [Act.put, sA, sB, sC, sD, sE]; rfl
              exact norm_ (by first | (simp only [putAll, Act.put, List.setIfInBounds_toArray, List.set_cons_zero, List.set_cons_succ]; done) | (simp only [putAll, Act.put, List.setIfInBounds_toArray, List.set_cons_zero, List.set_cons_succ]; rfl)) (HJN (g7, g8, g9, g10) _ (F4.out.sort (by have h := F4.out.2.1; simp only [List.nodup_cons, List.mem_cons, List.not_mem_nil, or_false, not_or, List.nodup_nil, not_false_eq_true, and_true] at h ⊢; omega) (by intro z hz; simp only [List.mem_cons, List.not_mem_nil, or_false] at hz ⊢; omega)))
             ·skip
              refine box_step ?hg (N := 10) ?hd (cs := #[.int .i64 0, .int .i64 0]) (t := 27) ?hr ?_; (case hd | hg => rfl); (case hr => first | (go_simp; done) | (go_simp; rfl)); intro g10 hg w' hbox hb; have F3 := Ak (F2.out.step hg hbox hb); clear hg hbox hb; refine hK.out _ _ (HS.out _ F3.out.1) (fun _ => ?_); clear hK K; refine norm_ (a' := ?_) ?_ ?_; rotate_left
              ·show Act.put _ (some 10) _ = _; simp only [Act.put, sA, sB, sC, sD, sE]; rfl
              refine one_ (i := 21) (N := some 8) #[T,T,T,T,T,T,T,T,T,T,T,T,T,T,T,T,T,T,T,T,T,T,T,T,F,F,F,F] rfl  rfl  (by kernel_rfl) (by decide)  (fun K hK => ?_); refine box_step ?hg (N := 8) ?hd (cs := #[.int .i64 0, .int .i64 0]) (t := 27) ?hr ?_; (case hd | hg => rfl); (case hr => first | (go_simp; done) | (go_simp; rfl)); intro g8 hg w' hbox hb; have F4 := Ak (F3.out.step hg hbox hb); clear hg hbox hb; refine hK.out _ _ (HS.out _ F4.out.1) (fun _ => ?_); clear hK K; refine norm_ (a' := ?_) ?_ ?_; rotate_left
              ·show Act.put _ (some 8) _ = _; simp only [Act.put, sA, sB, sC, sD, sE]; rfl
              exact norm_ (by first | (simp only [putAll, Act.put, List.setIfInBounds_toArray, List.set_cons_zero, List.set_cons_succ]; done) | (simp only [putAll, Act.put, List.setIfInBounds_toArray, List.set_cons_zero, List.set_cons_succ]; rfl)) (HJN (g7, g8, g9, g10) _ (F4.out.sort (by have h := F4.out.2.1; simp only [List.nodup_cons, List.mem_cons, List.not_mem_nil, or_false, not_or, List.nodup_nil, not_false_eq_true, and_true] at h ⊢; omega) (by intro z hz; simp only [List.mem_cons, List.not_mem_nil, or_false] at hz ⊢; omega)))
            ·skip
             refine box_step ?hg (N := 8) ?hd (cs := #[.int .i64 0, .int .i64 0]) (t := 27) ?hr ?_; (case hd | hg => rfl); (case hr => first | (go_simp; done) | (go_simp; rfl)); intro g8 hg w' hbox hb; have F2 := Ak (F1.out.step hg hbox hb); clear hg hbox hb; refine hK.out _ _ (HS.out _ F2.out.1) (fun _ => ?_); clear hK K; refine norm_ (a' := ?_) ?_ ?_; rotate_left
             ·show Act.put _ (some 8) _ = _; simp only [Act.put, sA, sB, sC, sD, sE]; rfl
             refine two_ (i := 20) (j := 23) (Ni := some 7) (Nj := some 10) #[T,T,T,T,T,T,T,T,T,T,T,T,T,T,T,T,T,T,T,T,T,T,T,F,F,F,F,F] #[T,T,T,T,T,T,T,T,T,T,T,T,T,T,T,T,T,T,T,T,F,T,T,T,F,F,F,F] rfl rfl  rfl rfl  (by kernel_rfl) (by decide) (by decide)  (fun K hK => ?_) (fun K hK => ?_)
             ·skip
              refine box_step ?hg (N := 7) ?hd (cs := #[.int .i64 0, .int .i64 0]) (t := 27) ?hr ?_; (case hd | hg => rfl); (case hr => first | (go_simp; done) | (go_simp; rfl)); intro g7 hg w' hbox hb; have F3 := Ak (F2.out.step hg hbox hb); clear hg hbox hb; refine hK.out _ _ (HS.out _ F3.out.1) (fun _ => ?_); clear hK K; refine norm_ (a' := ?_) ?_ ?_; rotate_left
              ·show Act.put _ (some 7) _ = _; simp only [Act.put, sA, sB, sC, sD, sE]; rfl
              refine one_ (i := 23) (N := some 10) #[T,T,T,T,T,T,T,T,T,T,T,T,T,T,T,T,T,T,T,T,T,T,T,T,F,F,F,F] rfl  rfl  (by kernel_rfl) (by decide)  (fun K hK => ?_); refine box_step ?hg (N := 10) ?hd (cs := #[.int .i64 0, .int .i64 0]) (t := 27) ?hr ?_; (case hd | hg => rfl); (case hr => first | (go_simp; done) | (go_simp; rfl)); intro g10 hg w' hbox hb; have F4 := Ak (F3.out.step hg hbox hb); clear hg hbox hb; refine hK.out _ _ (HS.out _ F4.out.1) (fun _ => ?_); clear hK K; refine norm_ (a' := ?_) ?_ ?_; rotate_left
              ·show Act.put _ (some 10) _ = _; simp only [Act.put, sA, sB, sC, sD, sE]; rfl
              exact norm_ (by first | (simp only [putAll, Act.put, List.setIfInBounds_toArray, List.set_cons_zero, List.set_cons_succ]; done) | (simp only [putAll, Act.put, List.setIfInBounds_toArray, List.set_cons_zero, List.set_cons_succ]; rfl)) (HJN (g7, g8, g9, g10) _ (F4.out.sort (by have h := F4.out.2.1; simp only [List.nodup_cons, List.mem_cons, List.not_mem_nil, or_false, not_or, List.nodup_nil, not_false_eq_true, and_true] at h ⊢; omega) (by intro z hz; simp only [List.mem_cons, List.not_mem_nil, or_false] at hz ⊢; omega)))
             ·skip
              refine box_step ?hg (N := 10) ?hd (cs := #[.int .i64 0, .int .i64 0]) (t := 27) ?hr ?_; (case hd | hg => rfl); (case hr => first | (go_simp; done) | (go_simp; rfl)); intro g10 hg w' hbox hb; have F3 := Ak (F2.out.step hg hbox hb); clear hg hbox hb; refine hK.out _ _ (HS.out _ F3.out.1) (fun _ => ?_); clear hK K; refine norm_ (a' := ?_) ?_ ?_; rotate_left
              ·show Act.put _ (some 10) _ = _; simp only [Act.put, sA, sB, sC, sD, sE]; rfl
              refine one_ (i := 20) (N := some 7) #[T,T,T,T,T,T,T,T,T,T,T,T,T,T,T,T,T,T,T,T,T,T,T,T,F,F,F,F] rfl  rfl  (by kernel_rfl) (by decide)  (fun K hK => ?_); refine box_step ?hg (N := 7) ?hd (cs := #[.int .i64 0, .int .i64 0]) (t := 27) ?hr ?_; (case hd | hg => rfl); (case hr => first | (go_simp; done) | (go_simp; rfl)); intro g7 hg w' hbox hb; have F4 := Ak (F3.out.step hg hbox hb); clear hg hbox hb; refine hK.out _ _ (HS.out _ F4.out.1) (fun _ => ?_); clear hK K; refine norm_ (a' := ?_) ?_ ?_; rotate_left
              ·show Act.put _ (some 7) _ = _; simp only [Act.put, sA, sB, sC, sD, sE]; rfl
              exact norm_ (by first | (simp only [putAll, Act.put, List.setIfInBounds_toArray, List.set_cons_zero, List.set_cons_succ]; done) | (simp only [putAll, Act.put, List.setIfInBounds_toArray, List.set_cons_zero, List.set_cons_succ]; rfl)) (HJN (g7, g8, g9, g10) _ (F4.out.sort (by have h := F4.out.2.1; simp only [List.nodup_cons, List.mem_cons, List.not_mem_nil, or_false, not_or, List.nodup_nil, not_false_eq_true, and_true] at h ⊢; omega) (by intro z hz; simp only [List.mem_cons, List.not_mem_nil, or_false] at hz ⊢; omega)))
            ·skip
             refine box_step ?hg (N := 10) ?hd (cs := #[.int .i64 0, .int .i64 0]) (t := 27) ?hr ?_; (case hd | hg => rfl); (case hr => first | (go_simp; done) | (go_simp; rfl)); intro g10 hg w' hbox hb; have F2 := Ak (F1.out.step hg hbox hb); clear hg hbox hb; refine hK.out _ _ (HS.out _ F2.out.1) (fun _ => ?_); clear hK K; refine norm_ (a' := ?_) ?_ ?_; rotate_left
             ·show Act.put _ (some 10) _ = _; simp only [Act.put, sA, sB, sC, sD, sE]; rfl
             refine two_ (i := 20) (j := 21) (Ni := some 7) (Nj := some 8) #[T,T,T,T,T,T,T,T,T,T,T,T,T,T,T,T,T,T,T,T,T,F,T,T,F,F,F,F] #[T,T,T,T,T,T,T,T,T,T,T,T,T,T,T,T,T,T,T,T,F,T,T,T,F,F,F,F] rfl rfl  rfl rfl  (by kernel_rfl) (by decide) (by decide)  (fun K hK => ?_) (fun K hK => ?_)
             ·skip
              refine box_step ?hg (N := 7) ?hd (cs := #[.int .i64 0, .int .i64 0]) (t := 27) ?hr ?_; (case hd | hg => rfl); (case hr => first | (go_simp; done) | (go_simp; rfl)); intro g7 hg w' hbox hb; have F3 := Ak (F2.out.step hg hbox hb); clear hg hbox hb; refine hK.out _ _ (HS.out _ F3.out.1) (fun _ => ?_); clear hK K; refine norm_ (a' := ?_) ?_ ?_; rotate_left
              ·show Act.put _ (some 7) _ = _; simp only [Act.put, sA, sB, sC, sD, sE]; rfl
              refine one_ (i := 21) (N := some 8) #[T,T,T,T,T,T,T,T,T,T,T,T,T,T,T,T,T,T,T,T,T,T,T,T,F,F,F,F] rfl  rfl  (by kernel_rfl) (by decide)  (fun K hK => ?_); refine box_step ?hg (N := 8) ?hd (cs := #[.int .i64 0, .int .i64 0]) (t := 27) ?hr ?_; (case hd | hg => rfl); (case hr => first | (go_simp; done) | (go_simp; rfl)); intro g8 hg w' hbox hb; have F4 := Ak (F3.out.step hg hbox hb); clear hg hbox hb; refine hK.out _ _ (HS.out _ F4.out.1) (fun _ => ?_); clear hK K; refine norm_ (a' := ?_) ?_ ?_; rotate_left
              ·show Act.put _ (some 8) _ = _; simp only [Act.put, sA, sB, sC, sD, sE]; rfl
              exact norm_ (by first | (simp only [putAll, Act.put, List.setIfInBounds_toArray, List.set_cons_zero, List.set_cons_succ]; done) | (simp only [putAll, Act.put, List.setIfInBounds_toArray, List.set_cons_zero, List.set_cons_succ]; rfl)) (HJN (g7, g8, g9, g10) _ (F4.out.sort (by have h := F4.out.2.1; simp only [List.nodup_cons, List.mem_cons, List.not_mem_nil, or_false, not_or, List.nodup_nil, not_false_eq_true, and_true] at h ⊢; omega) (by intro z hz; simp only [List.mem_cons, List.not_mem_nil, or_false] at hz ⊢; omega)))
             ·skip
              refine box_step ?hg (N := 8) ?hd (cs := #[.int .i64 0, .int .i64 0]) (t := 27) ?hr ?_; (case hd | hg => rfl); (case hr => first | (go_simp; done) | (go_simp; rfl)); intro g8 hg w' hbox hb; have F3 := Ak (F2.out.step hg hbox hb); clear hg hbox hb; refine hK.out _ _ (HS.out _ F3.out.1) (fun _ => ?_); clear hK K; refine norm_ (a' := ?_) ?_ ?_; rotate_left
              ·show Act.put _ (some 8) _ = _; simp only [Act.put, sA, sB, sC, sD, sE]; rfl
              refine one_ (i := 20) (N := some 7) #[T,T,T,T,T,T,T,T,T,T,T,T,T,T,T,T,T,T,T,T,T,T,T,T,F,F,F,F] rfl  rfl  (by kernel_rfl) (by decide)  (fun K hK => ?_); refine box_step ?hg (N := 7) ?hd (cs := #[.int .i64 0, .int .i64 0]) (t := 27) ?hr ?_; (case hd | hg => rfl); (case hr => first | (go_simp; done) | (go_simp; rfl)); intro g7 hg w' hbox hb; have F4 := Ak (F3.out.step hg hbox hb); clear hg hbox hb; refine hK.out _ _ (HS.out _ F4.out.1) (fun _ => ?_); clear hK K; refine norm_ (a' := ?_) ?_ ?_; rotate_left
              ·show Act.put _ (some 7) _ = _; simp only [Act.put, sA, sB, sC, sD, sE]; rfl
              exact norm_ (by first | (simp only [putAll, Act.put, List.setIfInBounds_toArray, List.set_cons_zero, List.set_cons_succ]; done) | (simp only [putAll, Act.put, List.setIfInBounds_toArray, List.set_cons_zero, List.set_cons_succ]; rfl)) (HJN (g7, g8, g9, g10) _ (F4.out.sort (by have h := F4.out.2.1; simp only [List.nodup_cons, List.mem_cons, List.not_mem_nil, or_false, not_or, List.nodup_nil, not_false_eq_true, and_true] at h ⊢; omega) (by intro z hz; simp only [List.mem_cons, List.not_mem_nil, or_false] at hz ⊢; omega)))
           ·skip
            refine box_step ?hg (N := 10) ?hd (cs := #[.int .i64 0, .int .i64 0]) (t := 27) ?hr ?_; (case hd | hg => rfl); (case hr => first | (go_simp; done) | (go_simp; rfl)); intro g10 hg w' hbox hb; have F1 := Ak (F0.out.step hg hbox hb); clear hg hbox hb; refine hK.out _ _ (HS.out _ F1.out.1) (fun _ => ?_); clear hK K; refine norm_ (a' := ?_) ?_ ?_; rotate_left
            ·show Act.put _ (some 10) _ = _; simp only [Act.put, sA, sB, sC, sD, sE]; rfl
            refine three_ (i := 20) (j := 21) (k := 22) (Ni := some 7) (Nj := some 8) (Nk := some 9) #[T,T,T,T,T,T,T,T,T,T,T,T,T,T,T,T,T,T,T,T,T,F,F,T,F,F,F,F] #[T,T,T,T,T,T,T,T,T,T,T,T,T,T,T,T,T,T,T,T,F,T,F,T,F,F,F,F] #[T,T,T,T,T,T,T,T,T,T,T,T,T,T,T,T,T,T,T,T,F,F,T,T,F,F,F,F] rfl rfl rfl  rfl rfl rfl  (by kernel_rfl) (by decide) (by decide) (by decide)  (fun K hK => ?_) (fun K hK => ?_) (fun K hK => ?_)
            ·skip
             refine box_step ?hg (N := 7) ?hd (cs := #[.int .i64 0, .int .i64 0]) (t := 27) ?hr ?_; (case hd | hg => rfl); (case hr => first | (go_simp; done) | (go_simp; rfl)); intro g7 hg w' hbox hb; have F2 := Ak (F1.out.step hg hbox hb); clear hg hbox hb; refine hK.out _ _ (HS.out _ F2.out.1) (fun _ => ?_); clear hK K; refine norm_ (a' := ?_) ?_ ?_; rotate_left
             ·show Act.put _ (some 7) _ = _; simp only [Act.put, sA, sB, sC, sD, sE]; rfl
             refine two_ (i := 21) (j := 22) (Ni := some 8) (Nj := some 9) #[T,T,T,T,T,T,T,T,T,T,T,T,T,T,T,T,T,T,T,T,T,T,F,T,F,F,F,F] #[T,T,T,T,T,T,T,T,T,T,T,T,T,T,T,T,T,T,T,T,T,F,T,T,F,F,F,F] rfl rfl  rfl rfl  (by kernel_rfl) (by decide) (by decide)  (fun K hK => ?_) (fun K hK => ?_)
             ·skip
              refine box_step ?hg (N := 8) ?hd (cs := #[.int .i64 0, .int .i64 0]) (t := 27) ?hr ?_; (case hd | hg => rfl); (case hr => first | (go_simp; done) | (go_simp; rfl)); intro g8 hg w' hbox hb; have F3 := Ak (F2.out.step hg hbox hb); clear hg hbox hb; refine hK.out _ _ (HS.out _ F3.out.1) (fun _ => ?_); clear hK K; refine norm_ (a' := ?_) ?_ ?_; rotate_left
              ·show Act.put _ (some 8) _ = _; simp only [Act.put, sA, sB, sC, sD, sE]; rfl
              refine one_ (i := 22) (N := some 9) #[T,T,T,T,T,T,T,T,T,T,T,T,T,T,T,T,T,T,T,T,T,T,T,T,F,F,F,F] rfl  rfl  (by kernel_rfl) (by decide)  (fun K hK => ?_); refine box_step ?hg (N := 9) ?hd (cs := #[.int .i64 0, .int .i64 0]) (t := 27) ?hr ?_; (case hd | hg => rfl); (case hr => first | (go_simp; done) | (go_simp; rfl)); intro g9 hg w' hbox hb; have F4 := Ak (F3.out.step hg hbox hb); clear hg hbox hb; refine hK.out _ _ (HS.out _ F4.out.1) (fun _ => ?_); clear hK K; refine norm_ (a' := ?_) ?_ ?_; rotate_left
              ·show Act.put _ (some 9) _ = _; simp only [Act.put, sA, sB, sC, sD, sE]; rfl
              exact norm_ (by first | (simp only [putAll, Act.put, List.setIfInBounds_toArray, List.set_cons_zero, List.set_cons_succ]; done) | (simp only [putAll, Act.put, List.setIfInBounds_toArray, List.set_cons_zero, List.set_cons_succ]; rfl)) (HJN (g7, g8, g9, g10) _ (F4.out.sort (by have h := F4.out.2.1; simp only [List.nodup_cons, List.mem_cons, List.not_mem_nil, or_false, not_or, List.nodup_nil, not_false_eq_true, and_true] at h ⊢; omega) (by intro z hz; simp only [List.mem_cons, List.not_mem_nil, or_false] at hz ⊢; omega)))
             ·skip
              refine box_step ?hg (N := 9) ?hd (cs := #[.int .i64 0, .int .i64 0]) (t := 27) ?hr ?_; (case hd | hg => rfl); (case hr => first | (go_simp; done) | (go_simp; rfl)); intro g9 hg w' hbox hb; have F3 := Ak (F2.out.step hg hbox hb); clear hg hbox hb; refine hK.out _ _ (HS.out _ F3.out.1) (fun _ => ?_); clear hK K; refine norm_ (a' := ?_) ?_ ?_; rotate_left
              ·show Act.put _ (some 9) _ = _; simp only [Act.put, sA, sB, sC, sD, sE]; rfl
              refine one_ (i := 21) (N := some 8) #[T,T,T,T,T,T,T,T,T,T,T,T,T,T,T,T,T,T,T,T,T,T,T,T,F,F,F,F] rfl  rfl  (by kernel_rfl) (by decide)  (fun K hK => ?_); refine box_step ?hg (N := 8) ?hd (cs := #[.int .i64 0, .int .i64 0]) (t := 27) ?hr ?_; (case hd | hg => rfl); (case hr => first | (go_simp; done) | (go_simp; rfl)); intro g8 hg w' hbox hb; have F4 := Ak (F3.out.step hg hbox hb); clear hg hbox hb; refine hK.out _ _ (HS.out _ F4.out.1) (fun _ => ?_); clear hK K; refine norm_ (a' := ?_) ?_ ?_; rotate_left
              ·show Act.put _ (some 8) _ = _; simp only [Act.put, sA, sB, sC, sD, sE]; rfl
              exact norm_ (by first | (simp only [putAll, Act.put, List.setIfInBounds_toArray, List.set_cons_zero, List.set_cons_succ]; done) | (simp only [putAll, Act.put, List.setIfInBounds_toArray, List.set_cons_zero, List.set_cons_succ]; rfl)) (HJN (g7, g8, g9, g10) _ (F4.out.sort (by have h := F4.out.2.1; simp only [List.nodup_cons, List.mem_cons, List.not_mem_nil, or_false, not_or, List.nodup_nil, not_false_eq_true, and_true] at h ⊢; omega) (by intro z hz; simp only [List.mem_cons, List.not_mem_nil, or_false] at hz ⊢; omega)))
            ·skip
             refine box_step ?hg (N := 8) ?hd (cs := #[.int .i64 0, .int .i64 0]) (t := 27) ?hr ?_; (case hd | hg => rfl); (case hr => first | (go_simp; done) | (go_simp; rfl)); intro g8 hg w' hbox hb; have F2 := Ak (F1.out.step hg hbox hb); clear hg hbox hb; refine hK.out _ _ (HS.out _ F2.out.1) (fun _ => ?_); clear hK K; refine norm_ (a' := ?_) ?_ ?_; rotate_left
             ·show Act.put _ (some 8) _ = _; simp only [Act.put, sA, sB, sC, sD, sE]; rfl
             refine two_ (i := 20) (j := 22) (Ni := some 7) (Nj := some 9) #[T,T,T,T,T,T,T,T,T,T,T,T,T,T,T,T,T,T,T,T,T,T,F,T,F,F,F,F] #[T,T,T,T,T,T,T,T,T,T,T,T,T,T,T,T,T,T,T,T,F,T,T,T,F,F,F,F] rfl rfl  rfl rfl  (by kernel_rfl) (by decide) (by decide)  (fun K hK => ?_) (fun K hK => ?_)
             ·skip
              refine box_step ?hg (N := 7) ?hd (cs := #[.int .i64 0, .int .i64 0]) (t := 27) ?hr ?_; (case hd | hg => rfl); (case hr => first | (go_simp; done) | (go_simp; rfl)); intro g7 hg w' hbox hb; have F3 := Ak (F2.out.step hg hbox hb); clear hg hbox hb; refine hK.out _ _ (HS.out _ F3.out.1) (fun _ => ?_); clear hK K; refine norm_ (a' := ?_) ?_ ?_; rotate_left
              ·show Act.put _ (some 7) _ = _; simp only [Act.put, sA, sB, sC, sD, sE]; rfl
              refine one_ (i := 22) (N := some 9) #[T,T,T,T,T,T,T,T,T,T,T,T,T,T,T,T,T,T,T,T,T,T,T,T,F,F,F,F] rfl  rfl  (by kernel_rfl) (by decide)  (fun K hK => ?_); refine box_step ?hg (N := 9) ?hd (cs := #[.int .i64 0, .int .i64 0]) (t := 27) ?hr ?_; (case hd | hg => rfl); (case hr => first | (go_simp; done) | (go_simp; rfl)); intro g9 hg w' hbox hb; have F4 := Ak (F3.out.step hg hbox hb); clear hg hbox hb; refine hK.out _ _ (HS.out _ F4.out.1) (fun _ => ?_); clear hK K; refine norm_ (a' := ?_) ?_ ?_; rotate_left
              ·show Act.put _ (some 9) _ = _; simp only [Act.put, sA, sB, sC, sD, sE]; rfl
              exact norm_ (by first | (simp only [putAll, Act.put, List.setIfInBounds_toArray, List.set_cons_zero, List.set_cons_succ]; done) | (simp only [putAll, Act.put, List.setIfInBounds_toArray, List.set_cons_zero, List.set_cons_succ]; rfl)) (HJN (g7, g8, g9, g10) _ (F4.out.sort (by have h := F4.out.2.1; simp only [List.nodup_cons, List.mem_cons, List.not_mem_nil, or_false, not_or, List.nodup_nil, not_false_eq_true, and_true] at h ⊢; omega) (by intro z hz; simp only [List.mem_cons, List.not_mem_nil, or_false] at hz ⊢; omega)))
             ·skip
              refine box_step ?hg (N := 9) ?hd (cs := #[.int .i64 0, .int .i64 0]) (t := 27) ?hr ?_; (case hd | hg => rfl); (case hr => first | (go_simp; done) | (go_simp; rfl)); intro g9 hg w' hbox hb; have F3 := Ak (F2.out.step hg hbox hb); clear hg hbox hb; refine hK.out _ _ (HS.out _ F3.out.1) (fun _ => ?_); clear hK K; refine norm_ (a' := ?_) ?_ ?_; rotate_left
              ·show Act.put _ (some 9) _ = _; simp only [Act.put, sA, sB, sC, sD, sE]; rfl
              refine one_ (i := 20) (N := some 7) #[T,T,T,T,T,T,T,T,T,T,T,T,T,T,T,T,T,T,T,T,T,T,T,T,F,F,F,F] rfl  rfl  (by kernel_rfl) (by decide)  (fun K hK => ?_); refine box_step ?hg (N := 7) ?hd (cs := #[.int .i64 0, .int .i64 0]) (t := 27) ?hr ?_; (case hd | hg => rfl); (case hr => first | (go_simp; done) | (go_simp; rfl)); intro g7 hg w' hbox hb; have F4 := Ak (F3.out.step hg hbox hb); clear hg hbox hb; refine hK.out _ _ (HS.out _ F4.out.1) (fun _ => ?_); clear hK K; refine norm_ (a' := ?_) ?_ ?_; rotate_left
              ·show Act.put _ (some 7) _ = _; simp only [Act.put, sA, sB, sC, sD, sE]; rfl
              exact norm_ (by first | (simp only [putAll, Act.put, List.setIfInBounds_toArray, List.set_cons_zero, List.set_cons_succ]; done) | (simp only [putAll, Act.put, List.setIfInBounds_toArray, List.set_cons_zero, List.set_cons_succ]; rfl)) (HJN (g7, g8, g9, g10) _ (F4.out.sort (by have h := F4.out.2.1; simp only [List.nodup_cons, List.mem_cons, List.not_mem_nil, or_false, not_or, List.nodup_nil, not_false_eq_true, and_true] at h ⊢; omega) (by intro z hz; simp only [List.mem_cons, List.not_mem_nil, or_false] at hz ⊢; omega)))
            ·skip
             refine box_step ?hg (N := 9) ?hd (cs := #[.int .i64 0, .int .i64 0]) (t := 27) ?hr ?_; (case hd | hg => rfl); (case hr => first | (go_simp; done) | (go_simp; rfl)); intro g9 hg w' hbox hb; have F2 := Ak (F1.out.step hg hbox hb); clear hg hbox hb; refine hK.out _ _ (HS.out _ F2.out.1) (fun _ => ?_); clear hK K; refine norm_ (a' := ?_) ?_ ?_; rotate_left
             ·show Act.put _ (some 9) _ = _; simp only [Act.put, sA, sB, sC, sD, sE]; rfl
             refine two_ (i := 20) (j := 21) (Ni := some 7) (Nj := some 8) #[T,T,T,T,T,T,T,T,T,T,T,T,T,T,T,T,T,T,T,T,T,F,T,T,F,F,F,F] #[T,T,T,T,T,T,T,T,T,T,T,T,T,T,T,T,T,T,T,T,F,T,T,T,F,F,F,F] rfl rfl  rfl rfl  (by kernel_rfl) (by decide) (by decide)  (fun K hK => ?_) (fun K hK => ?_)
             ·skip
              refine box_step ?hg (N := 7) ?hd (cs := #[.int .i64 0, .int .i64 0]) (t := 27) ?hr ?_; (case hd | hg => rfl); (case hr => first | (go_simp; done) | (go_simp; rfl)); intro g7 hg w' hbox hb; have F3 := Ak (F2.out.step hg hbox hb); clear hg hbox hb; refine hK.out _ _ (HS.out _ F3.out.1) (fun _ => ?_); clear hK K; refine norm_ (a' := ?_) ?_ ?_; rotate_left
              ·show Act.put _ (some 7) _ = _; simp only [Act.put, sA, sB, sC, sD, sE]; rfl
              refine one_ (i := 21) (N := some 8) #[T,T,T,T,T,T,T,T,T,T,T,T,T,T,T,T,T,T,T,T,T,T,T,T,F,F,F,F] rfl  rfl  (by kernel_rfl) (by decide)  (fun K hK => ?_); refine box_step ?hg (N := 8) ?hd (cs := #[.int .i64 0, .int .i64 0]) (t := 27) ?hr ?_; (case hd | hg => rfl); (case hr => first | (go_simp; done) | (go_simp; rfl)); intro g8 hg w' hbox hb; have F4 := Ak (F3.out.step hg hbox hb); clear hg hbox hb; refine hK.out _ _ (HS.out _ F4.out.1) (fun _ => ?_); clear hK K; refine norm_ (a' := ?_) ?_ ?_; rotate_left
              ·show Act.put _ (some 8) _ = _; simp only [Act.put, sA, sB, sC, sD, sE]; rfl
              exact norm_ (by first | (simp only [putAll, Act.put, List.setIfInBounds_toArray, List.set_cons_zero, List.set_cons_succ]; done) | (simp only [putAll, Act.put, List.setIfInBounds_toArray, List.set_cons_zero, List.set_cons_succ]; rfl)) (HJN (g7, g8, g9, g10) _ (F4.out.sort (by have h := F4.out.2.1; simp only [List.nodup_cons, List.mem_cons, List.not_mem_nil, or_false, not_or, List.nodup_nil, not_false_eq_true, and_true] at h ⊢; omega) (by intro z hz; simp only [List.mem_cons, List.not_mem_nil, or_false] at hz ⊢; omega)))
             ·skip
              refine box_step ?hg (N := 8) ?hd (cs := #[.int .i64 0, .int .i64 0]) (t := 27) ?hr ?_; (case hd | hg => rfl); (case hr => first | (go_simp; done) | (go_simp; rfl)); intro g8 hg w' hbox hb; have F3 := Ak (F2.out.step hg hbox hb); clear hg hbox hb; refine hK.out _ _ (HS.out _ F3.out.1) (fun _ => ?_); clear hK K; refine norm_ (a' := ?_) ?_ ?_; rotate_left
              ·show Act.put _ (some 8) _ = _; simp only [Act.put, sA, sB, sC, sD, sE]; rfl
              refine one_ (i := 20) (N := some 7) #[T,T,T,T,T,T,T,T,T,T,T,T,T,T,T,T,T,T,T,T,T,T,T,T,F,F,F,F] rfl  rfl  (by kernel_rfl) (by decide)  (fun K hK => ?_); refine box_step ?hg (N := 7) ?hd (cs := #[.int .i64 0, .int .i64 0]) (t := 27) ?hr ?_; (case hd | hg => rfl); (case hr => first | (go_simp; done) | (go_simp; rfl)); intro g7 hg w' hbox hb; have F4 := Ak (F3.out.step hg hbox hb); clear hg hbox hb; refine hK.out _ _ (HS.out _ F4.out.1) (fun _ => ?_); clear hK K; refine norm_ (a' := ?_) ?_ ?_; rotate_left
              ·show Act.put _ (some 7) _ = _; simp only [Act.put, sA, sB, sC, sD, sE]; rfl
              exact norm_ (by first | (simp only [putAll, Act.put, List.setIfInBounds_toArray, List.set_cons_zero, List.set_cons_succ]; done) | (simp only [putAll, Act.put, List.setIfInBounds_toArray, List.set_cons_zero, List.set_cons_succ]; rfl)) (HJN (g7, g8, g9, g10) _ (F4.out.sort (by have h := F4.out.2.1; simp only [List.nodup_cons, List.mem_cons, List.not_mem_nil, or_false, not_or, List.nodup_nil, not_false_eq_true, and_true] at h ⊢; omega) (by intro z hz; simp only [List.mem_cons, List.not_mem_nil, or_false] at hz ⊢; omega)))
          rintro ⟨g7, g8, g9, g10⟩ we HF; refine norm_ (a' := ?_) ?_ ?_; rotate_left
          ·simp only [putAll, Act.put, List.setIfInBounds_toArray, List.set_cons_zero, List.set_cons_succ]; rfl
          dsimp only at HF
          have HN4 := HF.2.1; simp only [List.nodup_cons, List.mem_cons, List.not_mem_nil, or_false, not_or, List.nodup_nil, not_false_eq_true, and_true] at HN4; have n01 : g7 ≠ g8 := by omega
          have n02 : g7 ≠ g9 := by omega
          have n03 : g7 ≠ g10 := by omega
          have n10 : g8 ≠ g7 := by omega
          have n12 : g8 ≠ g9 := by omega
          have n13 : g8 ≠ g10 := by omega
          have n20 : g9 ≠ g7 := by omega
          have n21 : g9 ≠ g8 := by omega
          have n23 : g9 ≠ g10 := by omega
          have n30 : g10 ≠ g7 := by omega
          have n31 : g10 ≠ g8 := by omega
          have n32 : g10 ≠ g9 := by omega
          have G0 : w.heap.size ≤ g7 := (HF.2.2 g7 (by simp)).1; have B0 := Ak (HF.2.2 g7 (by simp)).2; have G1 : w.heap.size ≤ g8 := (HF.2.2 g8 (by simp)).1; have B1 := Ak (HF.2.2 g8 (by simp)).2; have G2 : w.heap.size ≤ g9 := (HF.2.2 g9 (by simp)).1; have B2 := Ak (HF.2.2 g9 (by simp)).2; have G3 : w.heap.size ≤ g10 := (HF.2.2 g10 (by simp)).1; have B3 := Ak (HF.2.2 g10 (by simp)).2; clear HB; have HB := Ak HF.1; clear HF HN4; refine one_ (i := 24) (N := none) #[T,T,T,T,T,T,T,T,T,T,T,T,T,T,T,T,T,T,T,T,T,T,T,T,T,F,F,F] rfl rfl (by kernel_rfl) (by decide) (fun K hK => ?_); have z1 : we.cell? ⟨g7, 0, none⟩ = some (.int .i64 0) := (blk_cell B0.out 0).trans rfl; have z2 : we.cell? ⟨g7, 1, none⟩ = some (.int .i64 0) := (blk_cell B0.out 1).trans rfl; have z3 := blk_frozen B0.out 0; have z4 := blk_frozen B0.out 1; refine skip_ (w1 := (we.setCell ⟨g7, 0, none⟩ (.int .i64 p.f0)).setCell ⟨g7, 1, none⟩ (.int .i64 p.f1)) (by rfl) rfl ?_ ?_
          ·go_simp
          clear z1 z2 z3 z4; replace B0 := Ak (impl_PolygonOk.two_put B0.out (.int .i64 p.f0) (.int .i64 p.f1)); replace B1 := Ak (impl_PolygonOk.two_far B1.out n10 (.int .i64 p.f0) (.int .i64 p.f1)); replace B2 := Ak (impl_PolygonOk.two_far B2.out n20 (.int .i64 p.f0) (.int .i64 p.f1)); replace B3 := Ak (impl_PolygonOk.two_far B3.out n30 (.int .i64 p.f0) (.int .i64 p.f1)); replace HB := Ak (below_set (below_set HB.out G0 (j := 0) (v := .int .i64 p.f0)) G0 (j := 1) (v := .int .i64 p.f1)); generalize (we.setCell ⟨g7, 0, none⟩ (.int .i64 p.f0)).setCell ⟨g7, 1, none⟩ (.int .i64 p.f1) = w10 at B0 B1 B2 B3 HB ⊢; refine hK.out _ _ (HS.out _ HB.out) (fun _ => ?_); clear hK K; refine one_ (i := 25) (N := none) #[T,T,T,T,T,T,T,T,T,T,T,T,T,T,T,T,T,T,T,T,T,T,T,T,T,T,F,F] rfl rfl (by kernel_rfl) (by decide) (fun K hK => ?_); have z1 : w10.cell? ⟨g8, 0, none⟩ = some (.int .i64 0) := (blk_cell B1.out 0).trans rfl; have z2 : w10.cell? ⟨g8, 1, none⟩ = some (.int .i64 0) := (blk_cell B1.out 1).trans rfl; have z3 := blk_frozen B1.out 0; have z4 := blk_frozen B1.out 1; refine skip_ (w1 := (w10.setCell ⟨g8, 0, none⟩ (.int .i64 q.f0)).setCell ⟨g8, 1, none⟩ (.int .i64 q.f1)) (by rfl) rfl ?_ ?_
          ·go_simp
          clear z1 z2 z3 z4; replace B0 := Ak (impl_PolygonOk.two_far B0.out n01 (.int .i64 q.f0) (.int .i64 q.f1)); replace B1 := Ak (impl_PolygonOk.two_put B1.out (.int .i64 q.f0) (.int .i64 q.f1)); replace B2 := Ak (impl_PolygonOk.two_far B2.out n21 (.int .i64 q.f0) (.int .i64 q.f1)); replace B3 := Ak (impl_PolygonOk.two_far B3.out n31 (.int .i64 q.f0) (.int .i64 q.f1)); replace HB := Ak (below_set (below_set HB.out G1 (j := 0) (v := .int .i64 q.f0)) G1 (j := 1) (v := .int .i64 q.f1)); generalize (w10.setCell ⟨g8, 0, none⟩ (.int .i64 q.f0)).setCell ⟨g8, 1, none⟩ (.int .i64 q.f1) = w11 at B0 B1 B2 B3 HB ⊢; refine hK.out _ _ (HS.out _ HB.out) (fun _ => ?_); clear hK K; refine one_ (i := 26) (N := none) #[T,T,T,T,T,T,T,T,T,T,T,T,T,T,T,T,T,T,T,T,T,T,T,T,T,T,T,F] rfl rfl (by kernel_rfl) (by decide) (fun K hK => ?_); have z1 : w11.cell? ⟨g9, 0, none⟩ = some (.int .i64 0) := (blk_cell B2.out 0).trans rfl; have z2 : w11.cell? ⟨g9, 1, none⟩ = some (.int .i64 0) := (blk_cell B2.out 1).trans rfl; have z3 := blk_frozen B2.out 0; have z4 := blk_frozen B2.out 1; refine skip_ (w1 := (w11.setCell ⟨g9, 0, none⟩ (.int .i64 s.f0)).setCell ⟨g9, 1, none⟩ (.int .i64 s.f1)) (by rfl) rfl ?_ ?_
          ·go_simp
          clear z1 z2 z3 z4; replace B0 := Ak (impl_PolygonOk.two_far B0.out n02 (.int .i64 s.f0) (.int .i64 s.f1)); replace B1 := Ak (impl_PolygonOk.two_far B1.out n12 (.int .i64 s.f0) (.int .i64 s.f1)); replace B2 := Ak (impl_PolygonOk.two_put B2.out (.int .i64 s.f0) (.int .i64 s.f1)); replace B3 := Ak (impl_PolygonOk.two_far B3.out n32 (.int .i64 s.f0) (.int .i64 s.f1)); replace HB := Ak (below_set (below_set HB.out G2 (j := 0) (v := .int .i64 s.f0)) G2 (j := 1) (v := .int .i64 s.f1)); generalize (w11.setCell ⟨g9, 0, none⟩ (.int .i64 s.f0)).setCell ⟨g9, 1, none⟩ (.int .i64 s.f1) = w12 at B0 B1 B2 B3 HB ⊢; refine hK.out _ _ (HS.out _ HB.out) (fun _ => ?_); clear hK K; refine one_ (i := 27) (N := none) #[T,T,T,T,T,T,T,T,T,T,T,T,T,T,T,T,T,T,T,T,T,T,T,T,T,T,T,T] rfl rfl (by kernel_rfl) (by decide) (fun K hK => ?_); have z1 : w12.cell? ⟨g10, 0, none⟩ = some (.int .i64 0) := (blk_cell B3.out 0).trans rfl; have z2 : w12.cell? ⟨g10, 1, none⟩ = some (.int .i64 0) := (blk_cell B3.out 1).trans rfl; have z3 := blk_frozen B3.out 0; have z4 := blk_frozen B3.out 1; refine skip_ (w1 := (w12.setCell ⟨g10, 0, none⟩ (.int .i64 t.f0)).setCell ⟨g10, 1, none⟩ (.int .i64 t.f1)) (by rfl) rfl ?_ ?_
          ·go_simp
          clear z1 z2 z3 z4; replace B0 := Ak (impl_PolygonOk.two_far B0.out n03 (.int .i64 t.f0) (.int .i64 t.f1)); replace B1 := Ak (impl_PolygonOk.two_far B1.out n13 (.int .i64 t.f0) (.int .i64 t.f1)); replace B2 := Ak (impl_PolygonOk.two_far B2.out n23 (.int .i64 t.f0) (.int .i64 t.f1)); replace B3 := Ak (impl_PolygonOk.two_put B3.out (.int .i64 t.f0) (.int .i64 t.f1)); replace HB := Ak (below_set (below_set HB.out G3 (j := 0) (v := .int .i64 t.f0)) G3 (j := 1) (v := .int .i64 t.f1)); generalize (w12.setCell ⟨g10, 0, none⟩ (.int .i64 t.f0)).setCell ⟨g10, 1, none⟩ (.int .i64 t.f1) = w13 at B0 B1 B2 B3 HB ⊢; refine hK.out _ _ (HS.out _ HB.out) (fun _ => ?_); clear hK K; refine done_ (by kernel_rfl) ?_; have PE := Ak (show impl_PolygonOk.pair l0 x y = (!(p.f0 == q.f0 && (p.f1 == q.f1)) && (!(s.f0 == t.f0 && (s.f1 == t.f1)) && (impl_meet.f p.f0 p.f1 q.f0 q.f1 s.f0 s.f1 t.f0 t.f1 == some wt))) by unfold impl_PolygonOk.pair; rw [HI1.out, HJ.out, Hp.out, Hq.out, Hs.out, Ht.out, HWE.out, HWT.out]); have HXY := Ak (show 0 ≤ x ∧ x < y ∧ y < l0.length by have := HX.out; have := HY.out; omega); clear hj1 hi1 hnz hnz2 hnz3 a0 a1 a2 a3 b0 b1 b2 b3 HS HJ HI1 Hp Hq Hs Ht HWE HWT; have y00 : w13.cell? ⟨g7, 0, none⟩ = some (.int .i64 p.f0) := (blk_cell B0.out 0).trans rfl; have y01 : w13.cell? ⟨g7, 1, none⟩ = some (.int .i64 p.f1) := (blk_cell B0.out 1).trans rfl; have y10 : w13.cell? ⟨g8, 0, none⟩ = some (.int .i64 q.f0) := (blk_cell B1.out 0).trans rfl; have y11 : w13.cell? ⟨g8, 1, none⟩ = some (.int .i64 q.f1) := (blk_cell B1.out 1).trans rfl; have y20 : w13.cell? ⟨g9, 0, none⟩ = some (.int .i64 s.f0) := (blk_cell B2.out 0).trans rfl; have y21 : w13.cell? ⟨g9, 1, none⟩ = some (.int .i64 s.f1) := (blk_cell B2.out 1).trans rfl; have y30 : w13.cell? ⟨g10, 0, none⟩ = some (.int .i64 t.f0) := (blk_cell B3.out 0).trans rfl; have y31 : w13.cell? ⟨g10, 1, none⟩ = some (.int .i64 t.f1) := (blk_cell B3.out 1).trans rfl
          by_cases e1 : (p.f0 == q.f0 && (p.f1 == q.f1)) = true
          ·have HPF : impl_PolygonOk.pair l0 x y = false := by rw [PE.out, e1]; rfl
           have HV := Ak (impl_PolygonOk.not_all HXY.out.1 HXY.out.2.1 HXY.out.2.2 HPF); clear HPF
           go_wp2
           go_ret
           exact ⟨by rw [HV.out]; rfl, HB.out⟩
          ·replace e1 := Bool.eq_false_iff.mpr e1
           by_cases e2 : (s.f0 == t.f0 && (s.f1 == t.f1)) = true
           ·have HPF : impl_PolygonOk.pair l0 x y = false := by rw [PE.out, e1, e2]; rfl
            have HV := Ak (impl_PolygonOk.not_all HXY.out.1 HXY.out.2.1 HXY.out.2.2 HPF); clear HPF
            go_wp2
            go_ret
            exact ⟨by rw [HV.out]; rfl, HB.out⟩
           ·replace e2 := Bool.eq_false_iff.mpr e2; obtain ⟨m, hm⟩ := impl_meet.f_some p.f0 p.f1 q.f0 q.f1 s.f0 s.f1 t.f0 t.f1; have HPE : impl_PolygonOk.pair l0 x y = (m == wt) := by rw [PE.out, e1, e2, hm]; rfl
            replace hm := Ak hm
            by_cases e3 : m = wt
            ·have HPT : impl_PolygonOk.pair l0 x y = true := by rw [HPE]; exact beq_iff_eq.mpr e3
             have e3b : (m != wt) = false := bne_eq_false_iff_eq.mpr e3; replace HPT := Ak HPT; have HYW := Ak (show wrap64 (y + 1) = y + 1 from wrap64_id (by omega) (by omega)); clear HPE e3 PE
             go_wp2_with (first | (go_at_call 56; (with_reducible refine (impl_meet.calls p.f0 p.f1 q.f0 q.f1 s.f0 s.f1 t.f0 t.f1 m _ hm.out).mono ?_); rintro e w14 ⟨rfl, hb⟩; have HB14 := Ak (below_step HB.out hb); clear hb))
             go_roundg k2
             case measure => exact Nat.lt_succ_self _
             case rel =>
              refine ⟨y + 1, by first | rfl | (simp; done) | (rw [HYW.out]), ⟨by have := HY.out; omega⟩, HB14, ⟨fun z h1 h2 => ?_⟩⟩
              rcases Int.lt_or_eq_of_le (show z ≤ y by omega) with h | h
              ·exact HM.out z h1 h
              ·rw [h]; exact HPT.out
            ·have HPF : impl_PolygonOk.pair l0 x y = false := by rw [HPE]; exact beq_eq_false_iff_ne.mpr e3
             have e3b : (m != wt) = true := bne_iff_ne.mpr e3; have HV := Ak (impl_PolygonOk.not_all HXY.out.1 HXY.out.2.1 HXY.out.2.2 HPF); clear HPE e3 PE HPF
             go_wp2_with (first | (go_at_call 56; (with_reducible refine (impl_meet.calls p.f0 p.f1 q.f0 q.f1 s.f0 s.f1 t.f0 t.f1 m _ hm.out).mono ?_); rintro e w14 ⟨rfl, hb⟩; have HB14 := Ak (below_step HB.out hb); clear hb))
             go_ret
             exact ⟨by rw [HV.out]; rfl, HB14.out⟩
   ·replace k3 := Bool.eq_false_iff.mpr k3; rw [k3] at HARE; rw [k3, Bool.false_and]; clear k3
    go_enter Try.func13, Try.ntmps13
    go_wp2_with (first | (go_at_call 55; (with_reducible refine (impl_arePoints.calls 11 A0 c0 l0 false _ HR0.out HC0.out HARE.out).mono ?_); rintro e w2 ⟨rfl, hb⟩; have HB2 := Ak hb; clear hb))
    go_ret
    exact ⟨rfl, HB2.out⟩

end Go.Proofs.Ytlccpkggdmngaaa.G
