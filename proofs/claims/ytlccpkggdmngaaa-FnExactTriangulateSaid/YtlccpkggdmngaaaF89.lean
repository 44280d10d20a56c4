/- A Go function as a plain Lean function, and the proof that Go's call comes to its answer. No conditions but those in the theorem. Written by gen.py (a program of this session over the kit's print). -/
-- SHRUNK by pack.py
import Derived.Test.YtlccpkggdmngaaaG0
import Derived.Test.YtlccpkggdmngaaaF92
namespace Go.Proofs.Ytlccpkggdmngaaa.G
open Go.RowKit Go.Proofs.YtlccpkggdmngaaaW.PrintWords Go.Proofs.YtlccpkggdmngaaaW.PrintLast Go.Proofs.YtlccpkggdmngaaaW.PrintMore Go.Proofs.YtlccpkggdmngaaaW.PrintBits
attribute [local go_sem] max2_int min2_int max_two min_two max_three min_three max_four min_four   -- for this text's walks alone
set_option linter.unusedVariables false
set_option linter.unusedSimpArgs false

/-! ### impl_Triangulate_1: function 89 -/
def impl_Triangulate_1.f (a0 a1 a2 : Int) (l3 : List (List Int)) : Option (List (List Int)) := if l3.length < 1000000 then some (l3 ++ [[a0, a1, a2].mergeSort fun x y => decide (x ≤ y)]) else none
set_option maxHeartbeats 8000000 in
set_option maxRecDepth 100000 in
theorem impl_Triangulate_1.calls (a0 a1 a2 : Int) (xs r : List (List Int)) (g base : Nat) (v : Value) (ok : Nat → Prop) (w : World) (hb : w.heap[g]? = some (.cells #[v] 49 (0, 0))) (ho : Kd.S (Kd.slice 3 (Kd.int .i64)) 78 w base ok v xs)
  (hnew : ∀ k, w.heap.size ≤ k → ok k) (hbase : base ≤ w.heap.size) (hbg : base ≤ g) (h : impl_Triangulate_1.f a0 a1 a2 xs = some r) :
  Calls Try.prog 89 #[.int .i64 a0, .int .i64 a1, .int .i64 a2, .pointer (some ⟨g, 0, none⟩)] w fun e w' => e = .returned (.tuple #[]) ∧ ∃ v', w'.heap[g]? = some (.cells #[v'] 49 (0, 0)) ∧ Kd.S (Kd.slice 3 (Kd.int .i64)) 78 w' base ok v' r ∧ Below base w w' ∧ (v'.ownBlock = v.ownBlock ∨ ∃ b, v'.ownBlock = some b ∧ w.heap.size ≤ b) ∧ ∀ k, k < w.heap.size → k ≠ g → some k ≠ v.ownBlock → w'.heap[k]? = w.heap[k]? := by
 unfold impl_Triangulate_1.f at h
 by_cases hl : xs.length < 1000000
 ·rw [if_pos hl] at h; obtain rfl := Option.some.inj h; clear h; obtain ⟨A, c, rfl⟩ := Kd.S_slice ho; have HO := Ak ho; have HBG := Ak hb; have HL := Ak hl; clear ho hb hl; have HNG := Ak (show some g ≠ (.slice A xs.length c : Value).ownBlock from Kd.S_ne HO.out HBG.out (by decide))
  go_enter Try.func89, Try.ntmps89
  go_wp2_with (first
   | ((with_reducible refine gate_dst (N := 11) rfl ?_); refine Kd.R_lit (Kd.int .i64) w.heap.size 3 ?hg (N := 11) ?hd (xs := ([a0, a1, a2] : List Int)) (inner := [.int .i64 a0, .int .i64 a1, .int .i64 a2]) (ok := fun _ => True) (okp := fun _ => True) ?hr ?hp (fun _ hk => hk) trivial (Below.refl _ _) (Nat.le_refl _) (by simp) ?_; (case hd | hg => rfl); (case hr => first | (go_simp; done) | (go_simp; rfl)); (case hp => exact (Reps.one (show Kd.M (Kd.int .i64) _ _ _ a0 [.int .i64 a0] from rfl) (Reps.one (show Kd.M (Kd.int .i64) _ _ _ a1 [.int .i64 a1] from rfl) (Reps.one (show Kd.M (Kd.int .i64) _ _ _ a2 [.int .i64 a2] from rfl) (Reps.none _ _))))); intro v1 w1 ho1 hb1 hg1 hat1; obtain ⟨g1, c1, rfl, hge1, hlt1, hty1⟩ := Kd.R_form ho1 (by simp); have HO1 := Ak ho1; have HB1 := Ak hb1; have HGE := Ak hge1; clear ho1 hb1 hg1 hat1 hlt1 hty1 hge1)
   | ((with_reducible refine gate_callee (f := 90) rfl ?_); refine goesL_ (some 13) rfl rfl Try.func90 (by kernel_rfl) rfl #[.slice (some ⟨g1, 0, none⟩) ([a0, a1, a2] : List Int).length c1] rfl (by (try simp only [List.map_toArray, List.map_cons, List.map_nil]); first | done | rfl) ?_; (with_reducible refine (sort_ints HO1.out (by simp)).mono ?_); rintro e w2 ⟨rfl, ho2, hg2⟩; refine ⟨_, rfl, ?_⟩; have HO2 := Ak ho2; have HB2 := Ak (show Below w.heap.size w w2 from ⟨hg2.os.trans HB1.out.os, hg2.tape.trans HB1.out.tape, hg2.output.trans HB1.out.output, Nat.le_trans HB1.out.size hg2.size, fun k hk => (hg2.block k (Nat.lt_of_lt_of_le hk HB1.out.size) (fun e => by have := HGE.out; injection e with e; omega)).trans (HB1.out.block k hk)⟩); have HG2 := Ak (blk_below HBG.out HB2.out); have hcg2 : w2.cell? ⟨g, 0, none⟩ = some (.slice A xs.length c) := (blk_cell HG2.out 0).trans rfl; clear ho2 hg2 HO1 HB1)
   | ((with_reducible refine gate_builtin (b := .append) (xs := #[.tmp 14, .tmp 16]) rfl ?_); at_builtin; (refine Kd.S_append (Kd.slice 3 (Kd.int .i64)) (w0 := w) base rfl (.tmp 14) (.tmp 16) 49 78 (.slice none 0 0) 24 rfl Try.underlying49 info78 rfl (by decide) (by omega) (.slice A xs.length c) xs ([a0, a1, a2].mergeSort fun x y => decide (x ≤ y)) [.slice (some ⟨g1, 0, none⟩) 3 c1] ok (fun k_ => some k_ = some g1) rfl rfl ?aP ?aK ?aF ?aO ?aB ?aS ?aL ?_; (case aP => exact Kd.M_row (Kd.R_mono (Kd.R_tight rfl (Kd.R_lower HO2.out hbase)) (fun _ h_ => h_))); (case aK => exact fun k_ hk_ => by injection hk_ with hk_; subst hk_; exact ⟨hnew _ HGE.out, fun e_ => by have := HGE.out; have := Kd.S_lt HO.out _ e_.symm; omega⟩); (case aB => exact HB2.out.mono hbase); (case aF => exact fun k hk => hnew k (Nat.le_trans (below_size HB2.out) hk)); (case aO => exact Kd.S_mono (Kd.S_old HO.out HB2.out) (fun k_ hk => ⟨hk.1, fun e_ => by have := HGE.out; have := hk.2; injection e_ with e_; omega⟩)); (case aS => exact Nat.le_trans hbase (below_size HB2.out)); (case aL => have := HL.out; omega); intro v3 w3 ho3 hb3 hg3 hat3; obtain ⟨A3, c3, hv3⟩ := Kd.S_slice ho3; rw [List.length_append, List.length_singleton] at hv3; subst hv3; have HO3 := Ak ho3; have HB3 := Ak hb3; have HGR := Ak hg3; have HAT := Ak hat3; have HG3 := Ak (blk_grown HG2.out hg3 HNG.out); have hcg3 : w3.cell? ⟨g, 0, none⟩ = some (.slice A xs.length c) := (blk_cell HG3.out 0).trans rfl; have hfg3 := blk_frozen HG3.out 0; clear ho3 hb3 hg3 hat3)))
  go_end0
  refine ⟨rfl, .slice A3 (xs.length + 1) c3, ?_, ?_, ?_, ?_, ?_⟩
  ·exact blk_put HG3.out 0 _ rfl
  ·exact Kd.S_set HO3.out HG3.out (by decide) 0 _
  ·exact HB3.out.setCell hbg _
  ·rcases HAT.out with e | ⟨b, e, hb⟩
   ·exact .inl e
   ·exact .inr ⟨b, e, Nat.le_trans (below_size HB2.out) hb⟩
  ·intro k hk hkg hkv; rw [Below.heap_setCell _ _ _ _ hkg, HGR.out.block k (Nat.lt_of_lt_of_le hk (below_size HB2.out)) hkv]; exact HB2.out.block k hk
 ·rw [if_neg hl] at h; exact absurd h (by simp)
theorem below_own {B g : Nat} {w W w1 : World} (hb : Below B w W) (hg : W.grownBy w1 (some g)) (hge : B ≤ g) (hs : B ≤ W.heap.size) : Below B w w1 :=
 ⟨hg.os.trans hb.os, hg.tape.trans hb.tape, hg.output.trans hb.output, Nat.le_trans hb.size hg.size, fun k hk => (hg.block k (Nat.lt_of_lt_of_le hk hs) (fun e => by injection e with e; omega)).trans (hb.block k hk)⟩
def Tri (ow : Option Nat) (go base : Nat) (w : World) (xs : List (List Int)) : Prop := base ≤ go ∧ ∃ vo, w.heap[go]? = some (.cells #[vo] 49 (0, 0)) ∧ Kd.S (Kd.slice 3 (Kd.int .i64)) 78 w base (fun k => some k ≠ ow) vo xs
section
variable {ow : Option Nat} {go base : Nat} {W w1 : World} {xs : List (List Int)}
theorem Tri.below (h : Tri ow go base W xs) (hb : Below W.heap.size W w1) : Tri ow go base w1 xs := by
 obtain ⟨h1, vo, h2, h3⟩ := h
 exact ⟨h1, vo, blk_below h2 hb, Kd.S_below h3 hb⟩
theorem Tri.drew (h : Tri ow go base W xs) : Tri ow go base W.drew xs := h.below (below_drew (Below.refl _ _))
theorem Tri.over {v : Value} (h : Tri ow go base W xs) (hty : ∀ k, v.ownBlock = some k → ∃ cells, W.heap[k]? = some (.cells cells 27 (0, 0))) (hg : W.grownBy w1 v.ownBlock) : Tri ow go base w1 xs := by
 obtain ⟨h1, vo, h2, h3⟩ := h
 refine ⟨h1, vo, blk_grown h2 hg (fun e => ?_), Kd.S_over' h3 hty (by decide) hg⟩
 obtain ⟨cells, hc⟩ := hty go e.symm
 rw [hc] at h2
 injection h2 with h2
 injection h2 with _ h2
 exact absurd h2 (by decide)
theorem Tri.del {g : Nat} {cells : Array Value} (h : Tri (some g) go base W xs) (hc : W.heap[g]? = some (.cells cells 3 (0, 0))) (hg : W.grownBy w1 (some g)) : Tri (some g) go base w1 xs := by
 obtain ⟨h1, vo, h2, h3⟩ := h
 refine ⟨h1, vo, blk_grown h2 hg (fun e => ?_), Kd.S_grown h3 hg (fun _ hk => hk)⟩
 injection e with e
 subst e
 rw [hc] at h2
 injection h2 with h2
 injection h2 with _ h2
 exact absurd h2 (by decide)
theorem Tri.start {v : Value} (h : Kd.S (Kd.slice 3 (Kd.int .i64)) 78 W base (fun k => some k ≠ ow) v xs) (hb : W.heap[go]? = some (.cells #[v] 49 (0, 0))) (hbase : base ≤ go) : Tri ow go base W xs := ⟨hbase, v, hb, h⟩
theorem Tri.calls {a0 a1 a2 : Int} {r : List (List Int)} (h : Tri ow go base W xs) (how : ∀ k, ow = some k → k < W.heap.size) (hbase : base ≤ W.heap.size) (hr : impl_Triangulate_1.f a0 a1 a2 xs = some r) :
  Calls Try.prog 89 #[.int .i64 a0, .int .i64 a1, .int .i64 a2, .pointer (some ⟨go, 0, none⟩)] W fun e w' => e = .returned (.tuple #[]) ∧ Tri ow go base w' r ∧ Below base W w' ∧ ∀ (k : Nat) (cells : Array Value), W.heap[k]? = some (.cells cells 3 (0, 0)) → w'.heap[k]? = W.heap[k]? := by
 obtain ⟨h1, vo, h2, h3⟩ := h; refine (impl_Triangulate_1.calls a0 a1 a2 xs r go base vo (fun k => some k ≠ ow) W h2 h3 (fun k hk e => by have := how k e.symm; omega) hbase h1 hr).mono ?_; rintro e w' ⟨rfl, v', h4, h5, h6, _, h8⟩; refine ⟨rfl, ⟨h1, v', h4, h5⟩, h6, fun k cells hc => h8 k (blk_lt hc) ?_ ?_⟩
 ·rintro rfl; rw [hc] at h2
  injection h2 with h2
  injection h2 with _ h2
  exact absurd h2 (by decide)
 ·intro e; obtain ⟨cells', hc'⟩ := Kd.S_typed h3 k e.symm; rw [hc] at hc'
  injection hc' with hc'
  injection hc' with _ hc'
  exact absurd hc' (by decide)
theorem ints_kept {B : Nat} {ok : Nat → Prop} {v : Value} {ys : List Int} (hy : Kd.R (Kd.int .i64) 3 W B ok v ys) (hk : ∀ (k : Nat) (cells : Array Value), W.heap[k]? = some (.cells cells 3 (0, 0)) → w1.heap[k]? = W.heap[k]?) : Kd.R (Kd.int .i64) 3 w1 B ok v ys := by
 refine Kd.R_mono (Kd.R_step (Kd.R_bound hy) (fun k hb hlt => ?_)) (fun _ hk => hk.1)
 obtain ⟨_, _, _, q, hq, cells, hc⟩ := hb
 have hq3 : q = 3 := (List.mem_cons.1 hq).elim id (fun e => absurd e (by simp [Kd.int, Kd.scalar]))
 subst hq3
 exact hk k cells hc
theorem add_block (a : Addr) (n : Nat) : (a.add n).block = a.block := by unfold Addr.add; split <;> rfl
theorem cell_kept {a : Addr} {u : Value} {n c : Nat} {ad : Addr} {B : Nat} {ok : Nat → Prop} {ys : List Int} (hc : W.cell? a = some u) (ha : a.block = ad.block) (hy : Kd.R (Kd.int .i64) 3 W B ok (.slice (some ad) n c) ys) (hk : ∀ (k : Nat) (cells : Array Value), W.heap[k]? = some (.cells cells 3 (0, 0)) → w1.heap[k]? = W.heap[k]?) : w1.cell? a = some u := by
 obtain ⟨cells, hc'⟩ := Kd.R_typed hy ad.block rfl
 exact (World.cell?_of_block (by rw [ha]; exact hk _ _ hc')).trans hc
end
theorem goesV_ {P : Program} {ops : Array Oper} {Q : Exit → Act → World → Prop} {oi : Oper} {N : Option Tmp} {a : Act} {w : World} {K : Act → World → Prop} {f : FuncId} {fn : Func} {asx : Array Operand} {ts : Array TypeId} {x : Operand} {cap : Array Value} (hf : P.funcs[f]? = some fn) (hname : (fn.name == "runtime.NumGoroutine") = false) (hb : fn.body.isSome = true) (args all : Array Value)
  (hw : Region.wanted oi (yielded ops a.tmps) = true) (hN : oi.dst = N) (hop : oi.op = .call { callee := .value x, args := asx, argTypes := ts }) (hx : a.eval x = .func (.func f) #[] cap) (hargs : asx.map a.eval = args) (hall : args ++ cap = all)
  (h : Calls P f all w fun e w' => ∃ v, e = .returned v ∧ K (a.put N v) w') : if Region.wanted oi (yielded ops a.tmps) = true then Oper.wp P oi a w K Q else K (a.put N undef) w := by
 subst hall
 refine call_ f (args ++ cap) hw hN ?_ h
 have he := enters_ hf hname hb (args ++ cap) w
 unfold execOp
 simp [hop, resolve, Deferred.ofValue, invoke, hx, hargs, he]

end Go.Proofs.Ytlccpkggdmngaaa.G
