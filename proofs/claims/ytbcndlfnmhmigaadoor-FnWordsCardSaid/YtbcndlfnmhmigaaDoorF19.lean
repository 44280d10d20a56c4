/- A Go function as a plain Lean function, and the proof that Go's call comes to its answer. No conditions but those in the theorem. Written by gen.py (a program of this session over the kit's print). -/
-- SHRUNK by pack.py
import Derived.Test.YtbcndlfnmhmigaaDoorG0
import Derived.Test.YtbcndlfnmhmigaaDoorF20
import Derived.Test.YtbcndlfnmhmigaaDoorF21
namespace Go.Proofs.YtbcndlfnmhmigaaDoor.G
open Go.RowKit Go.Proofs.YtbcndlfnmhmigaaDoorW.PrintWords Go.Proofs.YtbcndlfnmhmigaaDoorW.PrintLast Go.Proofs.YtbcndlfnmhmigaaDoorW.PrintMore Go.Proofs.YtbcndlfnmhmigaaDoorW.PrintBits
attribute [local go_sem] max2_int min2_int max_two min_two max_three min_three max_four min_four   -- for this text's walks alone
set_option linter.unusedVariables false
set_option linter.unusedSimpArgs false

/-! ### spec_l31New: function 19 -/
def spec_l31New.l0 : Nat → Int → Int → List Int → Int → Int → Option (List Int × Int × Int)
 | 0, _, _, _, _, _ => none
 | k + 1, x1, x6, x105000, x105001, x105002 => if x6 < x1 then ((spec_l01Byte.f x105000 x105001 x105002).bind fun bt105 => (spec_l31New.l0 k x1 (wrap64 (x6 + 1)) x105000 bt105.2.1 bt105.2.2)) else (some (x105000, x105001, x105002))
def spec_l31New.f (k : Nat) (l0 : List Int) (a1 : Int) : Option (List Int × Int × Int) := (spec_l01New.f k l0).bind fun bt101 => (spec_l31New.l0 k a1 0 bt101.1 bt101.2.1 bt101.2.2)
theorem spec_l31New.mono_l : ∀ k, (∀ y0 y1 y2 y3 y4, LeO (spec_l31New.l0 k y0 y1 y2 y3 y4) (spec_l31New.l0 (k + 1) y0 y1 y2 y3 y4))
 | 0 => fun _ _ _ _ _ r h => by simp [spec_l31New.l0] at h
 | k + 1 => by
  have ih0 := spec_l31New.mono_l k
  ·intro y0 y1 y2 y3 y4
   unfold spec_l31New.l0
   repeat' first
   | (with_reducible exact ih0 _ _ _ _ _)
   | (with_reducible exact spec_l01New.mono _ _)
   | (with_reducible exact LeO.refl _)
   | (with_reducible exact LeO.none _)
   | (with_reducible refine LeO.ite ?_ ?_)
   | (with_reducible refine LeO.bind ?_ (fun _ => ?_))
   | exact ih0 _ _ _ _ _
   | exact spec_l01New.mono _ _
   | exact LeO.none _
   | refine LeO.ite ?_ ?_
   | refine LeO.bind ?_ (fun _ => ?_)
theorem spec_l31New.mono : ∀ a0 a1 k, LeO (spec_l31New.f k a0 a1) (spec_l31New.f (k + 1) a0 a1) := by
 intro a0 a1 k
 have ih0 := spec_l31New.mono_l k
 unfold spec_l31New.f
 repeat' first
   | (with_reducible exact ih0 _ _ _ _ _)
   | (with_reducible exact spec_l01New.mono _ _)
   | (with_reducible exact LeO.refl _)
   | (with_reducible exact LeO.none _)
   | (with_reducible refine LeO.ite ?_ ?_)
   | (with_reducible refine LeO.bind ?_ (fun _ => ?_))
   | exact ih0 _ _ _ _ _
   | exact spec_l01New.mono _ _
   | exact LeO.none _
   | refine LeO.ite ?_ ?_
   | refine LeO.bind ?_ (fun _ => ?_)
set_option maxHeartbeats 8000000 in
set_option maxRecDepth 100000 in
theorem spec_l31New.keepW {w W W2 w0 : World} {g : Nat} (h : Below w.heap.size w W) (hb0 : Below w0.heap.size w0 W) (hb2 : Below w0.heap.size w0 W2) (hk : KeepBut W W2 g none) (hg : w.heap.size ≤ g) : Below w.heap.size w W2 :=
 ⟨(hb2.os.trans hb0.os.symm).trans h.os, (hb2.tape.trans hb0.tape.symm).trans h.tape, (hb2.output.trans hb0.output.symm).trans h.output, Nat.le_trans h.size hk.1, fun k hlt => (hk.2 k (Nat.lt_of_lt_of_le hlt h.size) (by omega) (by simp)).trans (h.block k hlt)⟩
theorem spec_l31New.calls (k : Nat) (A0 : Option Addr) (c0 : Nat) (l0 : List Int) (a1 : Int) (r1 : List Int) (r2 : Int) (r3 : Int) (w0 w : World) (hB : Below w0.heap.size w0 w) (hr0 : Kd.C (Kd.int .u8) w0 A0 l0.length l0) (hc0 : l0.length ≤ c0) (h : spec_l31New.f k l0 a1 = some (r1, r2, r3)) :
  Calls Tryd.prog 19 #[.slice A0 l0.length c0, .int .i64 a1] w fun e w' => ∃ g_ : Nat, e = .returned (.pointer (some ⟨g_, 0, none⟩)) ∧ IsS48 w0 w' g_ r1 r2 r3 ∧ Below w0.heap.size w0 w' ∧ Below w.heap.size w w' := by
 have HR0 := Ak hr0; have HC0 := Ak hc0; clear hr0 hc0; have HBW := Ak (Below.refl w.heap.size w); have HW0 := Ak hB.size; have HB := Ak hB; clear hB; have H : ((spec_l01New.f k l0).bind fun bt101 => (spec_l31New.l0 k a1 0 bt101.1 bt101.2.1 bt101.2.2)) = some (r1, r2, r3) := h; clear h; replace H := Option.bind_eq_some_iff.mp H; obtain ⟨⟨t101, t102, t103⟩, A30, H⟩ := H; replace H : (spec_l31New.l0 k a1 0 t101 t102 t103) = some (r1, r2, r3) := H; have A3 := Ak A30; clear A30; have H' := Ak H; clear H
 go_enter Tryd.func19, Tryd.ntmps19
 go_wp2_with (first | ((with_reducible refine gate_callee (f := 21) rfl ?_); refine goesL_ (some 8) rfl rfl Tryd.func21 (by kernel_rfl) rfl #[.slice A0 l0.length c0] rfl (by (try simp only [List.map_toArray, List.map_cons, List.map_nil]); first | done | rfl | (simp only [List.length_drop, List.length_take]; rfl)) ?_; (with_reducible refine (spec_l01New.calls k _ _ l0 t101 t102 t103 w0 _ ?side1 ?side2 ?side3 A3.out).mono ?_); (case side1 => repeat (first | (with_reducible first | exact HB.out | apply bA | apply bD | apply bE) | exact HB.out)); (case side2 => exact HR0.out); (case side3 => exact HC0.out); rintro e w4 ⟨g104, rfl, hi, hb, hb2⟩; refine ⟨_, rfl, ?_⟩; have HW := Ak (And.intro (below_step (by repeat (first | exact HBW.out | apply bA | apply bD | apply bE)) hb2.1) (Nat.le_trans (below_size (by repeat (first | exact HBW.out | apply bA | apply bD | apply bE))) hb2.2)); have n0_ := Ak (hb); have n1_ := Ak (hi); clear HB; have HB := n0_; have HI104 := n1_; clear n0_ n1_; (try clear hb); (try clear hb2); (try clear hk); (try clear hi)))
 go_loopg [6] k (fun kq v6 w' => ∃ (x6_1 : Int) (x105001_1 : Int) (x105002_1 : Int), v6 = .int .i64 x6_1 ∧ Aside0 (spec_l31New.l0 kq a1 x6_1 t101 x105001_1 x105002_1 = some (r1, r2, r3)) ∧ Aside0 (kq ≤ k) ∧ Aside0 (IsS48 w0 w' g104 t101 x105001_1 x105002_1) ∧ Aside0 (Below w0.heap.size w0 w') ∧ Aside0 (Below w.heap.size w w' ∧ w.heap.size ≤ g104))
 case atStart => exact ⟨(0), (t102), (t103), (by first | rfl | (simp; done) | (simp [*]; done)), H', ⟨Nat.le_refl _⟩, ⟨by repeat (first | (with_reducible first | exact HI104.out | apply IsS48.alloc | apply IsS48.drewN | apply IsS48.drew | apply IsS48.set_1 | apply IsS48.set_2) | exact HI104.out)⟩, ⟨by repeat (first | (with_reducible first | exact HB.out | apply bA | apply bD | apply bE | refine below_set ?_ (IsS48.ge HI104.out)) | exact HB.out)⟩, ⟨⟨by repeat (first | exact HW.out.1 | apply bA | apply bD | apply bE), HW.out.2⟩⟩⟩
 case round =>
  clear H'
  try clear c1
  try clear c2
  try clear p2
  obtain ⟨x6_1, x105001_1, x105002_1, rfl, HA, HK1, HI104, HB, HW⟩ := hrel
  cases gk with
  | zero => exact absurd HA.out (by simp [spec_l31New.l0])
  | succ k1 =>
   have H := HA.out; clear HA; simp only [spec_l31New.l0] at H
   by_cases c5 : x6_1 < a1
   ·rw [if_pos c5] at H; have c5b0 : decide (x6_1 < a1) = true := decide_eq_true c5; clear c5; replace H := Option.bind_eq_some_iff.mp H; obtain ⟨⟨t105, t106, t107⟩, A60, H⟩ := H; replace H : (spec_l31New.l0 k1 a1 (wrap64 (x6_1 + 1)) t101 t106 t107) = some (r1, r2, r3) := H; have A6 := Ak A60; clear A60; have H' := Ak H; clear H
    go_wp2_with (first | ((with_reducible refine gate_callee (f := 20) rfl ?_); refine goesL_ (some 15) rfl rfl Tryd.func20 (by kernel_rfl) rfl #[.pointer (some ⟨g104, 0, none⟩)] rfl (by (try simp only [List.map_toArray, List.map_cons, List.map_nil]); first | done | rfl | (simp only [List.length_drop, List.length_take]; rfl)) ?_; (with_reducible refine (spec_l01Byte.calls g104 t101 x105001_1 x105002_1 t105 t106 t107 w0 _ ?side1 ?side2 A6.out).mono ?_); (case side1 => repeat (first | (with_reducible first | exact HI104.out | apply IsS48.alloc | apply IsS48.drewN | apply IsS48.drew | apply IsS48.set_1 | apply IsS48.set_2) | exact HI104.out)); (case side2 => repeat (first | (with_reducible first | exact HB.out | apply bA | apply bD | apply bE | refine below_set ?_ (IsS48.ge HI104.out)) | exact HB.out)); rintro e w7 ⟨rfl, hi, hb, hk⟩; refine ⟨_, rfl, ?_⟩; have HW2 := Ak (And.intro (spec_l31New.keepW (by repeat (first | exact HW.out.1 | apply bA | apply bD | apply bE)) (by repeat (first | exact HB.out | apply bA | apply bD | apply bE)) hb hk HW.out.2) HW.out.2); clear HW; have HW := HW2; clear HW2; have n0_ := Ak (hb); have n1_ := Ak (hi); clear HB; clear HI104; have HB := n0_; have HI104 := n1_; clear n0_ n1_; (try clear hb); (try clear hb2); (try clear hk); (try clear hi)))
    go_roundg k1
    case measure => have := HK1.out; omega
    case rel => exact ⟨(wrap64 (x6_1 + 1)), (t106), (t107), (by first | rfl | (simp; done) | (simp [*]; done)), H', ⟨by have := HK1.out; omega⟩, ⟨by repeat (first | (with_reducible first | exact HI104.out | apply IsS48.alloc | apply IsS48.drewN | apply IsS48.drew | apply IsS48.set_1 | apply IsS48.set_2) | exact HI104.out)⟩, ⟨by repeat (first | (with_reducible first | exact HB.out | apply bA | apply bD | apply bE | refine below_set ?_ (IsS48.ge HI104.out)) | exact HB.out)⟩, ⟨⟨by repeat (first | exact HW.out.1 | apply bA | apply bD | apply bE), HW.out.2⟩⟩⟩
   ·rw [if_neg c5] at H; have c5b0 : decide (x6_1 < a1) = false := decide_eq_false c5; clear c5; simp only [Option.some.injEq, Prod.mk.injEq] at H; obtain ⟨rfl, rfl, rfl⟩ := H
    go_wp2
    go_ret
    exact ⟨_, rfl, HI104.out, by repeat (first | (with_reducible first | exact HB.out | apply bA | apply bD | apply bE | refine below_set ?_ (IsS48.ge HI104.out)) | exact HB.out), by repeat (first | exact HW.out.1 | apply bA | apply bD | apply bE)⟩

end Go.Proofs.YtbcndlfnmhmigaaDoor.G
