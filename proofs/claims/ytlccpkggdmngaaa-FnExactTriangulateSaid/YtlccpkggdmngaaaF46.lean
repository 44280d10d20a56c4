/- A Go function as a plain Lean function, and the proof that Go's call comes to its answer. No conditions but those in the theorem. Written by gen.py (a program of this session over the kit's print). -/
-- SHRUNK by pack.py
import Derived.Test.YtlccpkggdmngaaaG0
import Derived.Test.YtlccpkggdmngaaaF85
namespace Go.Proofs.Ytlccpkggdmngaaa.G
open Go.RowKit Go.Proofs.YtlccpkggdmngaaaW.PrintWords Go.Proofs.YtlccpkggdmngaaaW.PrintLast Go.Proofs.YtlccpkggdmngaaaW.PrintMore Go.Proofs.YtlccpkggdmngaaaW.PrintBits
attribute [local go_sem] max2_int min2_int max_two min_two max_three min_three max_four min_four   -- for this text's walks alone
set_option linter.unusedVariables false
set_option linter.unusedSimpArgs false

/-! ### laws_markIntSS: function 46 -/
def laws_markIntSS.l0 : Nat → List (List Int) → Int → Int → Option (Int × List (List Int))
 | 0, _, _, _ => none
 | k + 1, x0, x1, x5 => if x5 < (x0.length : Int) then (if 0 ≤ x5 then ((laws_markIntS.f k (x0.getD x5.toNat []) x1).bind fun b => laws_markIntSS.l0 k (x0.set x5.toNat b.2) b.1 (wrap64 (x5 + 1))) else none) else some (x1, x0)
def laws_markIntSS.f (k : Nat) (l0 : List (List Int)) (a1 : Int) : Option (Int × List (List Int)) := laws_markIntSS.l0 k l0 a1 0
set_option maxHeartbeats 8000000 in
set_option maxRecDepth 100000 in
theorem laws_markIntSS.calls (k : Nat) (P0_ : Nat → Prop) (u : Value) (l0 : List (List Int)) (a1 : Int) (r1 : Int) (r2 : List (List Int)) (w0 w : World) (hB : Below w0.heap.size w0 w) (ho0 : Kd.S (Kd.slice 3 (Kd.int .i64)) 78 w w0.heap.size P0_ u l0) (h : laws_markIntSS.f k l0 a1 = some (r1, r2)) :
  Calls Try.prog 46 #[u, .int .i64 a1] w fun e w' => e = .returned (.int .i64 r1) ∧ Kd.S (Kd.slice 3 (Kd.int .i64)) 78 w' w0.heap.size P0_ u r2 ∧ Below w0.heap.size w0 w' ∧ Kept w w' P0_ := by
 have HS := Ak ho0; have HK := Ak (Kept.refl w P0_); have HB := Ak hB; clear hB ho0; have H' := Ak (show laws_markIntSS.l0 k l0 a1 0 = some (r1, r2) from h); clear h
 go_enter Try.func46, Try.ntmps46
 go_wp2
 go_loopg [1, 5] k (fun kq v1 v5 w' => ∃ (x0 : List (List Int)) (x1 x5 : Int), v1 = .int .i64 x1 ∧ v5 = .int .i64 x5 ∧ Aside0 (laws_markIntSS.l0 kq x0 x1 x5 = some (r1, r2)) ∧ Aside0 (kq ≤ k) ∧ Aside0 (Kd.S (Kd.slice 3 (Kd.int .i64)) 78 w' w0.heap.size P0_ u x0) ∧ Aside0 (Kept w w' P0_) ∧ Aside0 (Below w0.heap.size w0 w'))
 case atStart => exact ⟨l0, a1, 0, (by first | rfl | (simp; done)), (by first | rfl | (simp; done)), H', ⟨Nat.le_refl _⟩, ⟨(by (with_reducible repeat (first | apply Kd.S_alloc | apply Kd.S_drewN | apply Kd.S_drew)); exact HS.out)⟩, ⟨(by repeat (first | exact HK.out | apply Kept.alloc | apply Kept.drewN | apply Kept.drew))⟩, ⟨(by repeat (first | exact HB.out | apply bA | apply bD | apply bE))⟩⟩
 case round =>
  clear H' HS HK HB; obtain ⟨x0, x1, x5, rfl, rfl, HA, HK1, HS, HK, HB⟩ := hrel
  cases gk with
  | zero => exact absurd HA.out (by simp [laws_markIntSS.l0])
  | succ k1 =>
   have H := HA.out; clear HA; simp only [laws_markIntSS.l0] at H
   by_cases c3 : x5 < (x0.length : Int)
   ·rw [if_pos c3] at H; have c3b0 : decide (x5 < (x0.length : Int)) = true := decide_eq_true c3
    by_cases c4 : 0 ≤ x5
    ·rw [if_pos c4] at H; obtain ⟨⟨b1, b2⟩, A5_, H⟩ := Option.bind_eq_some_iff.mp H; replace H : laws_markIntSS.l0 k1 (x0.set x5.toNat b2) b1 (wrap64 (x5 + 1)) = some (r1, r2) := H; have H' := Ak H; have A5 := Ak A5_; clear H A5_; obtain ⟨g, cap, eu, hbg, hgl, _⟩ := Kd.S_form HS.out (by omega); subst eu; obtain ⟨oki, c, hcl, hM, hcc, hfr, hoki, hH⟩ := Kd.S_elem HS.out ([] : List Int) x5 c4 c3; obtain ⟨y, hy⟩ : ∃ y_ : List Int, y_ = x0.getD x5.toNat [] := ⟨_, rfl⟩; rw [← hy] at hM; replace A5 := Ak (show laws_markIntS.f k1 y x1 = some (b1, b2) from by rw [hy]; exact A5.out); clear hy; obtain ⟨v, rfl, hR⟩ := hM; obtain ⟨Av, cv, rfl⟩ := Kd.R_slice hR; have hx : wr.cell? ⟨g, x5.toNat * 1, none⟩ = some (.slice Av y.length cv) := hcc 0 _ rfl; rw [Nat.mul_one] at hx; have HR := Ak hR; have HH := Ak hH; have HOK := Ak hoki; clear hR hH hoki hcc hfr hcl HS; have p5 := eq_true c4; have q5 := eq_true c3; clear c3 c4
     go_wp2_with (first | ((with_reducible refine gate_callee (f := 85) rfl ?_); refine goesL_ (some 17) rfl rfl Try.func85 (by kernel_rfl) rfl #[.slice Av y.length cv, .int .i64 x1] rfl (by (try simp only [List.map_toArray, List.map_cons, List.map_nil]); first | done | rfl) ?_; (with_reducible refine (laws_markIntS.calls k1 oki _ y x1 b1 b2 w0 _ ?side1 ?side2 A5.out).mono ?_); (case side1 => exact (by repeat (first | exact HB.out | apply bA | apply bD | apply bE))); (case side2 => (with_reducible repeat (first | apply Kd.R_alloc | apply Kd.R_drewN | apply Kd.R_drew)); exact HR.out); rintro e w2_ ⟨rfl, hR2, hb2, hk2⟩; refine ⟨_, rfl, ?_⟩; have nS_ := Ak (Kd.H_back (Kd.H_kept (by (with_reducible repeat (first | apply Kd.H_alloc | apply Kd.H_drewN | apply Kd.H_drew)); exact HH.out) hk2 (fun _ _ hn => hn)) (x' := b2) (show ((Kd.slice 3 (Kd.int .i64))).M w2_ w0.heap.size oki b2 [.slice Av y.length cv] from ⟨_, rfl, Kd.R_mono (Kd.R_tight rfl hR2) (fun k_ hk_ => HR.out.1 k_ hk_.symm)⟩) (fun _ hk_ => hk_)); have nK_ := Ak ((show Kept w _ P0_ from (by repeat (first | exact HK.out | apply Kept.alloc | apply Kept.drewN | apply Kept.drew))).then_ hk2 (fun k_ hk_ => Or.inl (HOK.out k_ hk_).1)); have nB_ := Ak hb2; clear HB HK HH HR hR2 hb2 hk2; have HS := nS_; have HK := nK_; have HB := nB_; clear nS_ nK_ nB_))
     go_roundg k1
     case measure => have := HK1.out; omega
     case rel => exact ⟨_, b1, (wrap64 (x5 + 1)), (by first | rfl | (simp; done) | (simp [*]; done)), (by first | rfl | (simp; done) | (simp [*]; done)), H', ⟨by have := HK1.out; omega⟩, ⟨(by (with_reducible repeat (first | apply Kd.S_alloc | apply Kd.S_drewN | apply Kd.S_drew)); exact HS.out)⟩, ⟨(by repeat (first | exact HK.out | apply Kept.alloc | apply Kept.drewN | apply Kept.drew))⟩, ⟨(by repeat (first | exact HB.out | apply bA | apply bD | apply bE))⟩⟩
    ·rw [if_neg c4] at H; exact absurd H (by simp)
   ·rw [if_neg c3] at H; have c3b0 : decide (x5 < (x0.length : Int)) = false := decide_eq_false c3; clear c3; obtain ⟨rfl, rfl⟩ := Prod.mk.inj (Option.some.inj H); obtain ⟨Au, cu, rfl⟩ := Kd.S_slice HS.out
    go_wp2
    go_ret
    exact ⟨(by first | rfl | (simp; done) | (simp [*]; done)), (by (with_reducible repeat (first | apply Kd.S_alloc | apply Kd.S_drewN | apply Kd.S_drew)); exact HS.out), (by repeat (first | exact HB.out | apply bA | apply bD | apply bE)), (by repeat (first | exact HK.out | apply Kept.alloc | apply Kept.drewN | apply Kept.drew))⟩

end Go.Proofs.Ytlccpkggdmngaaa.G
