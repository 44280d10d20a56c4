/- A Go function as a plain Lean function, and the proof that Go's call comes to its answer. No conditions but those in the theorem. Written by gen.py (a program of this session over the kit's print). -/
-- SHRUNK by pack.py
import Derived.Test.YtlfifpkigapabaaG0
import Derived.Test.YtlfifpkigapabaaF71
import Derived.Shelf.SlicesQ.Reverse
namespace Go.Proofs.Ytlfifpkigapabaa.G
open Go.RowKit Go.Proofs.YtlfifpkigapabaaW.PrintWords Go.Proofs.YtlfifpkigapabaaW.PrintLast Go.Proofs.YtlfifpkigapabaaW.PrintMore Go.Proofs.YtlfifpkigapabaaW.PrintBits
attribute [local go_sem] max2_int min2_int max_two min_two max_three min_three max_four min_four   -- for this text's walks alone
set_option linter.unusedVariables false
set_option linter.unusedSimpArgs false

/-! ### impl_turned: function 58 -/
def impl_turned.ren : Go.Shelf.Ren := ⟨fun | 35 => 72 | n => n, fun | 22 => 29 | 23 => 38 | 3 => 3 | 4 => 4 | 0 => 0 | n => n, fun | n => n⟩
theorem impl_turned.lays : Go.Proofs.SlLaysE0.n35 Try.prog impl_turned.ren := {
 mixed := by kernel_rfl
 f35 := ⟨Try.f72.name, by decide, Try.func72.trans (congrArg some (by kernel_rfl))⟩
 t0 := Try.underlying0
 a0 := Try.isAgg0
 z0 := Try.sizeOf0
 v0 := Try.zeroValue0
 t3 := Try.underlying3
 a3 := Try.isAgg3
 z3 := Try.sizeOf3
 v3 := Try.zeroValue3
 t4 := Try.underlying4
 a4 := Try.isAgg4
 z4 := Try.sizeOf4
 v4 := Try.zeroValue4
 t22 := Try.underlying29
 a22 := Try.isAgg29
 z22 := Try.sizeOf29
 v22 := Try.zeroValue29 }
instance : Inhabited S38 := ⟨z38⟩
def impl_turned.enc (x : S38) : List Value := [.int .i64 x.f0, .int .i64 x.f1]
/-- A row of points of the call's own, opened. -/
theorem impl_turned.split {w : World} {base : Nat} {ok : Nat → Prop} {v : Value} {l : List S38} (h : Kd.R k38 38 w base ok v l) (hn : 0 < l.length) :
  ∃ (g c : Nat) (cur : Array Value), v = .slice (some ⟨g, 0, none⟩) l.length c ∧ base ≤ g ∧ w.heap[g]? = some (.cells cur 38 (0, 0)) ∧ l.length ≤ c ∧ c ≤ maxLen ∧ cur.size = c * 2 ∧
   ∀ (j : Nat) p, l[j]? = some p → cur[j * 2]? = some (.int .i64 p.f0) ∧ cur[j * 2 + 1]? = some (.int .i64 p.f1) := by
 obtain ⟨h0, inner, ⟨hl, h2⟩, hr⟩ := h
 rcases h2 with ⟨_, hz⟩ | ⟨g, cap, cur, hv, hg, hh, h3, h4, h5, h6⟩
 ·omega
 ·refine ⟨g, cap, cur, hv, hg, hh, h3, h4, h5, fun j p hj => ?_⟩
  have hjl : j < l.length := (List.getElem?_eq_some_iff.1 hj).1
  have hm : (inner.drop (j * 2)).take 2 = [.int .i64 p.f0, .int .i64 p.f1] := k38_openM (hr.2 j p hj)
  have hlen : inner.length = l.length * 2 := hl
  have h6' : cur.toList.take (l.length * 2) = inner := h6
  have e0 : ((inner.drop (j * 2)).take 2)[0]? = some (.int .i64 p.f0) := by rw [hm]; rfl
  have e1 : ((inner.drop (j * 2)).take 2)[1]? = some (.int .i64 p.f1) := by rw [hm]; rfl
  rw [List.getElem?_take_of_lt (by omega), List.getElem?_drop, ← h6', List.getElem?_take_of_lt (by omega)] at e0 e1
  simp only [Array.getElem?_toList, Nat.add_zero] at e0 e1
  exact ⟨e0, e1⟩
/-- .. and shut. -/
theorem impl_turned.join {w : World} {base g c : Nat} {cur : Array Value} {l : List S38} (hg : base ≤ g) (hh : w.heap[g]? = some (.cells cur 38 (0, 0))) (h3 : l.length ≤ c) (h4 : c ≤ maxLen) (h5 : cur.size = c * 2)
  (hc : ∀ (j : Nat) p, l[j]? = some p → cur[j * 2]? = some (.int .i64 p.f0) ∧ cur[j * 2 + 1]? = some (.int .i64 p.f1)) : Kd.R k38 38 w base (fun _ => True) (.slice (some ⟨g, 0, none⟩) l.length c) l := by
 have hlen : (cur.toList.take (l.length * 2)).length = l.length * 2 := by
  have q : cur.toList.length = c * 2 := by rw [← h5]; exact Array.length_toList
  rw [List.length_take, q]; omega
 refine ⟨fun _ _ => trivial, cur.toList.take (l.length * 2), ⟨hlen, Or.inr ⟨g, c, cur, rfl, hg, hh, h3, h4, h5, rfl⟩⟩, hlen, fun j p hj => ?_⟩
 have hjl : j < l.length := (List.getElem?_eq_some_iff.1 hj).1
 obtain ⟨e0, e1⟩ := hc j p hj
 have key : ((cur.toList.take (l.length * 2)).drop (j * 2)).take 2 = [.int .i64 p.f0, .int .i64 p.f1] := by
  apply List.ext_getElem?
  intro i
  match i with
  | 0 =>
   rw [List.getElem?_take_of_lt (by omega), List.getElem?_drop, List.getElem?_take_of_lt (by omega), Array.getElem?_toList, Nat.add_zero, e0]; rfl
  | 1 =>
   rw [List.getElem?_take_of_lt (by omega), List.getElem?_drop, List.getElem?_take_of_lt (by omega), Array.getElem?_toList, e1]; rfl
  | i + 2 =>
   rw [List.getElem?_eq_none (by rw [List.length_take]; omega)]; rfl
 show k38.M w base _ p (((cur.toList.take (l.length * 2)).drop (j * 2)).take 2)
 rw [key]
 exact k38_mkM w base _ p
/-- The tail turned round in place. -/
theorem impl_turned.tail {W : World} {g c : Nat} {cur : Array Value} {l : List S38} (hn : 0 < l.length) (hlong : l.length ≤ 9223372036854775807) (hh : W.heap[g]? = some (.cells cur 38 (0, 0))) (h5 : cur.size = c * 2) (h3 : l.length ≤ c)
  (hc : ∀ (j : Nat) p, l[j]? = some p → cur[j * 2]? = some (.int .i64 p.f0) ∧ cur[j * 2 + 1]? = some (.int .i64 p.f1)) (A : Option Addr) (hA : 2 ≤ l.length → A = some ⟨g, 2, none⟩) (c' : Nat) :
  Calls Try.prog 72 #[.slice A (l.length - 1) c'] W fun e w' => e = .returned (.tuple #[]) ∧ w'.os = W.os ∧ w'.tape = W.tape ∧ w'.output = W.output ∧ w'.heap.size = W.heap.size ∧ (∀ k, k ≠ g → w'.heap[k]? = W.heap[k]?) ∧
   ∃ cur2 : Array Value, w'.heap[g]? = some (.cells cur2 38 (0, 0)) ∧ cur2.size = c * 2 ∧ ∀ (j : Nat) p, (l.take 1 ++ (l.drop 1).reverse)[j]? = some p → cur2[j * 2]? = some (.int .i64 p.f0) ∧ cur2[j * 2 + 1]? = some (.int .i64 p.f1) := by
 by_cases h1 : l.length = 1
 ·rw [h1]
  refine (AnyQ.slices_Reverse_empty impl_turned.lays A c' W).mono fun e w' ⟨he, hw⟩ => ?_
  subst hw
  refine ⟨he, rfl, rfl, rfl, rfl, fun _ _ => rfl, cur, hh, h5, fun j p hj => ?_⟩
  have : l.take 1 ++ (l.drop 1).reverse = l := by
   match l, h1 with
   | [a], _ => rfl
  rw [this] at hj
  exact hc j p hj
 ·have h2 : 2 ≤ l.length := by omega
  obtain rfl := hA h2
  have dsz : (l.drop 1).toArray.size = l.length - 1 := by simp
  have get : ∀ i (hi : i < l.length - 1), (l.drop 1).toArray[i]! = l[i + 1]'(by omega) := by
   intro i hi
   rw [getElem!_pos _ i (by rw [dsz]; exact hi)]
   simp [Nat.add_comm]
  have HK : Sort.HoldsK impl_turned.enc 2 W g 2 (l.drop 1).toArray := by
   intro j hj
   rw [Sort.size_flatK, dsz] at hj
   have hi : j / 2 < l.length - 1 := by omega
   refine ⟨?_, blk_frozen hh (2 + j)⟩
   rw [blk_cell hh (2 + j), Sort.get_flatK _ _ _ _ (by rw [dsz]; exact hj), get (j / 2) hi]
   have hx := hc (j / 2 + 1) (l[j / 2 + 1]'(by omega)) (List.getElem?_eq_getElem _)
   rcases Nat.mod_two_eq_zero_or_one j with q | q
   ·rw [q, show 2 + j = (j / 2 + 1) * 2 by omega, hx.1]; rfl
   ·rw [q, show 2 + j = (j / 2 + 1) * 2 + 1 by omega, hx.2]; rfl
  have con := AnyQ.slices_Reverse impl_turned.lays 2 Try.isAgg38 Try.sizeOf38 impl_turned.enc (fun _ => rfl) (fun x v hv => by simp [impl_turned.enc] at hv; rcases hv with rfl | rfl <;> rfl) g 2 c' (l.drop 1).toArray W HK (by rw [dsz]; omega)
  rw [dsz] at con
  refine Calls.mono (con : Calls Try.prog 72 #[.slice (some ⟨g, 2, none⟩) (l.length - 1) c'] W _) fun e w' ⟨he, m, hw⟩ => ?_
  subst hw
  have H2 : Sort.HoldsK impl_turned.enc 2 (Sort.putRowK impl_turned.enc 2 (Sort.ahead W m) g 2 (l.drop 1).toArray.reverse) g 2 (l.drop 1).toArray.reverse := Sort.holdsK_putRowK impl_turned.enc 2 (Sort.ahead W m) g 2 (l.drop 1).toArray _ HK (by simp)
  have hb : (Sort.putRowK impl_turned.enc 2 (Sort.ahead W m) g 2 (l.drop 1).toArray.reverse).heap[g]? = some (.cells (Sort.putCells id 2 (Sort.flatK impl_turned.enc 2 (l.drop 1).toArray.reverse) cur) 38 (0, 0)) := by
   show (W.heap.modify g _)[g]? = _
   rw [Array.getElem?_modify, if_pos rfl, hh]; rfl
  refine ⟨he, rfl, rfl, rfl, by show (W.heap.modify g _).size = _; rw [Array.size_modify], fun k hk => ?_, _, hb, by simp [Sort.putCells, h5], fun j p hj => ?_⟩
  ·show (W.heap.modify g _)[k]? = _
   rw [Array.getElem?_modify, if_neg (Ne.symm hk)]
  ·match j with
   | 0 =>
    have e : (l.take 1 ++ (l.drop 1).reverse)[0]? = l[0]? := by
     match l, hn with
     | a :: r, _ => rfl
    rw [e] at hj
    obtain ⟨a0, a1⟩ := hc 0 p hj
    unfold Sort.putCells
    rw [Array.getElem?_mapIdx, Array.getElem?_mapIdx, a0, a1]
    exact ⟨by simp, by simp⟩
   | i + 1 =>
    have hlen1 : (l.take 1).length = 1 := by rw [List.length_take]; omega
    rw [List.getElem?_append_right (by omega), hlen1, Nat.add_sub_cancel] at hj
    have hi : i < l.length - 1 := by
     have := (List.getElem?_eq_some_iff.1 hj).1
     simpa using this
    have hp : (l.drop 1).toArray.reverse[i]! = p := by
     rw [getElem!_pos _ i (by simp; omega)]
     have : (l.drop 1).toArray.reverse = (l.drop 1).reverse.toArray := by simp
     simp only [this, List.getElem_toArray]
     exact (List.getElem?_eq_some_iff.1 hj).2
    have c0 := (H2.cell (i := i) (c := 0) (by simp; omega) (by omega)).1
    have c1 := (H2.cell (i := i) (c := 1) (by simp; omega) (by omega)).1
    rw [blk_cell hb, hp] at c0 c1
    rw [show (i + 1) * 2 = 2 + i * 2 + 0 by omega, show 2 + i * 2 + 0 + 1 = 2 + i * 2 + 1 by omega]
    exact ⟨c0, c1⟩
def impl_turned.f (l0 : List S38) : Option (List S38) := if 0 < l0.length then (if l0.length < 8796093022208 then some (l0.take 1 ++ (l0.drop 1).reverse) else none) else none
set_option maxHeartbeats 8000000 in
set_option maxRecDepth 100000 in
theorem impl_turned.calls (A0 : Option Addr) (c0 : Nat) (l0 : List S38) (r : List S38) (w : World) (hr0 : Kd.C k38 w A0 l0.length l0) (hc0 : l0.length ≤ c0) (h : impl_turned.f l0 = some r) :
  Calls Try.prog 58 #[.slice A0 l0.length c0] w fun e w' => ∃ v0_ : Value, e = .returned (v0_) ∧ Kd.R k38 38 w' w.heap.size (fun _ => True) v0_ r ∧ Below w.heap.size w w' := by
 have HR0 := Ak hr0; have HC0 := Ak hc0; have hlong : l0.length ≤ 9223372036854775807 := hr0.2.1; clear hr0 hc0; have HB := Ak (Below.refl w.heap.size w); unfold impl_turned.f at h
 by_cases hpos : 0 < l0.length
 ·rw [if_pos hpos] at h
  by_cases hbig : l0.length < 8796093022208
  ·rw [if_pos hbig] at h; obtain rfl := Option.some.inj h; have hcl : impl_Point_71.f l0 = some l0 := by unfold impl_Point_71.f; simp; omega
   have A1 := Ak hcl; clear hcl h; have hlen2 : (l0.take 1 ++ (l0.drop 1).reverse).length = l0.length := by simp; omega
   go_enter Try.func58, Try.ntmps58
   go_wp2_with (first | ((with_reducible refine gate_callee (f := 71) rfl ?_); refine goesL_ (some 5) rfl rfl Try.func71 (by kernel_rfl) rfl #[.slice A0 l0.length c0] rfl (by (try simp only [List.map_toArray, List.map_cons, List.map_nil]); first | done | rfl | (simp only [List.length_drop, List.length_take]; rfl)) ?_; (with_reducible refine (impl_Point_71.calls _ _ l0 l0 _ ?side1 ?side2 A1.out).mono ?_); (case side1 => repeat (first | exact HR0.out | (with_reducible refine Kd.C_alloc ?_ _) | (with_reducible refine Kd.C_drewN ?_ _) | (with_reducible refine Kd.C_drew ?_))); (case side2 => exact HC0.out); rintro e w7 ⟨v103, rfl, ho0, hb⟩; refine ⟨_, rfl, ?_⟩; have ho1 := Kd.R_lower ho0 (below_size (by repeat (first | exact HB.out | apply bA | apply bD | apply bE))); have n1_ := Ak (below_step (by repeat (first | exact HB.out | apply bA | apply bD | apply bE)) hb); clear HB; have HB := n1_; clear n1_; obtain ⟨g, c, cur, rfl, hg, hh, h3, h4, h5, hcells⟩ := impl_turned.split ho1 hpos; have HG := Ak hg; have HH := Ak hh; have H3 := Ak h3; have H4 := Ak h4; have H5 := Ak h5; have HCE := Ak hcells; clear hg hh h3 h4 h5 hcells ho0 ho1 hb; obtain ⟨i0_, hi0_, _, hsz_, _⟩ := info_parts info38; obtain ⟨A9, hA9⟩ : ∃ A9 : Option Addr, A9 = (if c = (1 : Int).toNat then (some ⟨g, 0, none⟩ : Option Addr) else (some ⟨g, 0, none⟩ : Option Addr).map (·.add ((1 : Int).toNat * 2))) := ⟨_, rfl⟩; have hcut := cut_from (P := Try.prog) 29 38 .i64 Try.underlying29 hi0_ 2 hsz_ (some ⟨g, 0, none⟩) l0.length c 1 (by omega) (by omega); rw [← hA9] at hcut; have HA9 := Ak hA9; clear hA9; have one_ : ((1 : Int) ≤ (l0.length : Int)) = True := eq_true (by omega)) | ((with_reducible refine gate_callee (f := 72) rfl ?_); refine goesL_ (some 8) rfl rfl Try.func72 (by kernel_rfl) rfl #[.slice A9 (l0.length - 1) (c - 1)] rfl (by (try simp only [List.map_toArray, List.map_cons, List.map_nil]); first | done | rfl) ?_; refine (impl_turned.tail (c := c) hpos hlong HH.out H5.out H3.out HCE.out A9 (fun h2_ => by rw [HA9.out, if_neg (by have := H3.out; omega)]; rfl) (c - 1)).mono ?_; rintro e w8 ⟨rfl, q1, q2, q3, q4, q5, cur2, q6, q7, q8⟩; refine ⟨_, rfl, ?_⟩; have HQ := Ak (show Below w.heap.size w w8 from ⟨q1.trans HB.out.os, q2.trans HB.out.tape, q3.trans HB.out.output, by rw [q4]; exact HB.out.size, fun k hk => (q5 k (by have := HG.out; omega)).trans (HB.out.block k hk)⟩); have HJ := Ak (impl_turned.join (base := w.heap.size) HG.out q6 (by rw [hlen2]; exact H3.out) H4.out q7 q8); clear q1 q2 q3 q4 q5 q6 q7 q8))
   go_ret
   rw [hlen2] at HJ; exact ⟨_, rfl, HJ.out, HQ.out⟩
  ·rw [if_neg hbig] at h; cases h
 ·rw [if_neg hpos] at h; cases h

end Go.Proofs.Ytlfifpkigapabaa.G
