/- A Go function as a plain Lean function, and the proof that Go's call comes to its answer. No conditions but those in the theorem. Written by gen.py (a program of this session over the kit's print). -/
-- SHRUNK by pack.py
import Derived.Test.YtlccpkggdmngaaaG0
import Derived.Shelf.Sort.Plain
import Derived.Shelf.Slices.Delete
import Derived.Sort.OwnSortedInts
import Derived.Ground.Names2Prog
namespace Go.Proofs.Ytlccpkggdmngaaa.G
open Go.RowKit Go.Proofs.YtlccpkggdmngaaaW.PrintWords Go.Proofs.YtlccpkggdmngaaaW.PrintLast Go.Proofs.YtlccpkggdmngaaaW.PrintMore Go.Proofs.YtlccpkggdmngaaaW.PrintBits
attribute [local go_sem] max2_int min2_int max_two min_two max_three min_three max_four min_four   -- for this text's walks alone
set_option linter.unusedVariables false
set_option linter.unusedSimpArgs false

/-! ### slices_Delete_int_int: function 92 -/
section
open Go.Shelf
def slices_Delete_int_int.rens : Go.Shelf.Ren := ⟨fun | 189 => 90 | 125 => 108 | 257 => 107 | 128 => 121 | 129 => 122 | 294 => 112 | 295 => 113 | 296 => 114 | 297 => 115 | 298 => 116 | 299 => 117 | 216 => 118 | 300 => 119 | 301 => 120 | 328 => 123 | 329 => 124 | 330 => 125 | 331 => 126 | 332 => 127 | 215 => 128 | 343 => 129 | n => n, fun | 28 => 78 | 3 => 3 | 46 => 96 | 0 => 0 | 51 => 108 | 53 => 110 | 4 => 4 | 183 => 101 | 182 => 100 | 131 => 105 | 5 => 5 | 9 => 9 | 218 => 111 | 222 => 115 | 228 => 118 | 229 => 119 | n => n, fun | n => n⟩
theorem slices_Delete_int_int.layss : Go.Proofs.Lays.n189 Try.prog slices_Delete_int_int.rens := {
 mixed := by kernel_rfl
 f125 := Try.func108.trans (congrArg some (by kernel_rfl))
 f128 := Try.func121.trans (congrArg some (by kernel_rfl))
 f129 := Try.func122.trans (congrArg some (by kernel_rfl))
 f189 := Try.func90.trans (congrArg some (by kernel_rfl))
 f215 := Try.func128.trans (congrArg some (by kernel_rfl))
 f216 := Try.func118.trans (congrArg some (by kernel_rfl))
 f257 := Try.func107.trans (congrArg some (by kernel_rfl))
 f294 := Try.func112.trans (congrArg some (by kernel_rfl))
 f295 := Try.func113.trans (congrArg some (by kernel_rfl))
 f296 := Try.func114.trans (congrArg some (by kernel_rfl))
 f297 := Try.func115.trans (congrArg some (by kernel_rfl))
 f298 := Try.func116.trans (congrArg some (by kernel_rfl))
 f299 := Try.func117.trans (congrArg some (by kernel_rfl))
 f300 := Try.func119.trans (congrArg some (by kernel_rfl))
 f301 := Try.func120.trans (congrArg some (by kernel_rfl))
 f328 := Try.func123.trans (congrArg some (by kernel_rfl))
 f329 := Try.func124.trans (congrArg some (by kernel_rfl))
 f330 := Try.func125.trans (congrArg some (by kernel_rfl))
 f331 := Try.func126.trans (congrArg some (by kernel_rfl))
 f332 := Try.func127.trans (congrArg some (by kernel_rfl))
 f343 := Try.func129.trans (congrArg some (by kernel_rfl))
 t0 := Try.underlying0
 a0 := Try.isAgg0
 z0 := Try.sizeOf0
 v0 := Try.zeroValue0
 t3 := Try.underlying3
 a3 := Try.isAgg3
 z3 := Try.sizeOf3
 v3 := Try.zeroValue3
 t4 := Try.underlying4
 a4 := Try.isAgg4
 z4 := Try.sizeOf4
 v4 := Try.zeroValue4
 t5 := Try.underlying5
 a5 := Try.isAgg5
 z5 := Try.sizeOf5
 v5 := Try.zeroValue5
 t9 := Try.underlying9
 a9 := Try.isAgg9
 z9 := Try.sizeOf9
 v9 := Try.zeroValue9
 t28 := Try.underlying78
 a28 := Try.isAgg78
 z28 := Try.sizeOf78
 v28 := Try.zeroValue78
 t46 := Try.underlying96
 a46 := Try.isAgg96
 z46 := Try.sizeOf96
 v46 := Try.zeroValue96
 t51 := Try.underlying108
 a51 := Try.isAgg108
 z51 := Try.sizeOf108
 v51 := Try.zeroValue108
 t53 := Try.underlying110
 a53 := Try.isAgg110
 z53 := Try.sizeOf110
 v53 := Try.zeroValue110
 t131 := Try.underlying105
 a131 := Try.isAgg105
 z131 := Try.sizeOf105
 v131 := Try.zeroValue105
 t182 := Try.underlying100
 a182 := Try.isAgg100
 z182 := Try.sizeOf100
 v182 := Try.zeroValue100
 t183 := Try.underlying101
 a183 := Try.isAgg101
 z183 := Try.sizeOf101
 v183 := Try.zeroValue101
 t218 := Try.underlying111
 a218 := Try.isAgg111
 z218 := Try.sizeOf111
 v218 := Try.zeroValue111
 t222 := Try.underlying115
 a222 := Try.isAgg115
 z222 := Try.sizeOf115
 v222 := Try.zeroValue115
 t228 := Try.underlying118
 a228 := Try.isAgg118
 z228 := Try.sizeOf118
 v228 := Try.zeroValue118
 t229 := Try.underlying119
 a229 := Try.isAgg119
 z229 := Try.sizeOf119
 v229 := Try.zeroValue119 }
open Go.Sort Go.RowKit in
theorem slices_Delete_int_int.sort (blk off cap : Nat) (zs : List Int) (w : World) (hH : Holds (Value.int .i64) w blk off zs.toArray) (hblk : blk < w.heap.size) (hsz : zs.length < 4611686018427387904) :
  Calls Try.prog 90 #[.slice (some ⟨blk, off, none⟩) zs.length cap] w fun e w' =>
   e = .returned (.tuple #[]) ∧ ∃ n os, w' = grow (putRow (Value.int .i64) (Sort.ahead w n) blk off (zs.mergeSort fun x y => decide (x ≤ y)).toArray) os := Any.slices_Sort_int slices_Delete_int_int.layss blk off cap zs w hH hblk hsz
def slices_Delete_int_int.rend : Go.Shelf.Ren := ⟨fun | 23 => 92 | n => n, fun | 22 => 78 | 3 => 3 | 4 => 4 | 0 => 0 | n => n, fun | n => n⟩
theorem slices_Delete_int_int.laysd : Go.Proofs.Lays2.n23 Try.prog slices_Delete_int_int.rend := {
 mixed := by kernel_rfl
 f23 := Try.func92.trans (congrArg some (by kernel_rfl))
 t0 := Try.underlying0
 a0 := Try.isAgg0
 z0 := Try.sizeOf0
 v0 := Try.zeroValue0
 t3 := Try.underlying3
 a3 := Try.isAgg3
 z3 := Try.sizeOf3
 v3 := Try.zeroValue3
 t4 := Try.underlying4
 a4 := Try.isAgg4
 z4 := Try.sizeOf4
 v4 := Try.zeroValue4
 t22 := Try.underlying78
 a22 := Try.isAgg78
 z22 := Try.sizeOf78
 v22 := Try.zeroValue78
 i3 := by kernel_rfl }
open Go.RowKit Go.Lib Go.Sort in
theorem slices_Delete_int_int.del (blk off cap i j : Nat) (zs : List Int) (w : World) (hH : Holds (Value.int .i64) w blk off zs.toArray) (hcap : zs.length ≤ cap) (hm : cap ≤ 9223372036854775807) (hij : i ≤ j) (hj : j ≤ zs.length) :
  Calls Try.prog 92 #[.slice (some ⟨blk, off, none⟩) zs.length cap, .int .i64 i, .int .i64 j] w fun e w' => e = .returned (.slice (some ⟨blk, off, none⟩) (zs.length - (j - i)) cap) ∧ ∃ q, w' = putRow (Value.int .i64) (Sort.ahead w q) blk off (zs.take i ++ zs.drop j ++ List.replicate (j - i) 0).toArray := Any.slices_Delete_int slices_Delete_int_int.laysd blk off cap i j zs w hH hcap hm hij hj
end
section
open Go.Sort
/-- The same slice behind a writing of as many numbers. -/
theorem ints_row {e base g cap : Nat} {ok : Nat → Prop} {xs ys : List Int} {w : World} (h : Kd.R (Kd.int .i64) e w base ok (.slice (some ⟨g, 0, none⟩) xs.length cap) xs) (hl : ys.length = xs.length) :
  Holds (Value.int .i64) w g 0 xs.toArray ∧ g < w.heap.size ∧ xs.length ≤ cap ∧ cap ≤ maxLen ∧ ∀ (n : Nat) (os : Array Obj), Kd.R (Kd.int .i64) e (grow (putRow (Value.int .i64) (Sort.ahead w n) g 0 ys.toArray) os) base ok (.slice (some ⟨g, 0, none⟩) xs.length cap) ys := by
 have ho := Kd.own_of_R h
 rcases ho.2 with ⟨h0, _⟩ | ⟨g', cap', cur, hv, hg, hb, hn, hcap, hcs, ht⟩
 ·cases h0
 ·cases hv
  have ht' : cur.toList.take xs.length = xs.map (Value.int .i64) := by rw [Nat.mul_one] at ht; exact ht
  refine ⟨holds_of_blockI hb ht', (Array.getElem?_eq_some_iff.1 hb).1, hn, hcap, fun n os => ?_⟩
  refine Kd.R_of_own ?_ h.1
  have := ownsRow_sortedI (n := n) (os := os) hl hg hb hn hcap (by simpa using hcs)
  rw [hl]
  exact this
theorem sort_ints {e base g cap : Nat} {ok : Nat → Prop} {xs : List Int} {w : World} (h : Kd.R (Kd.int .i64) e w base ok (.slice (some ⟨g, 0, none⟩) xs.length cap) xs) (hl : xs.length < 4611686018427387904) :
  Calls Try.prog 90 #[.slice (some ⟨g, 0, none⟩) xs.length cap] w fun e_ w' => e_ = .returned (.tuple #[]) ∧ Kd.R (Kd.int .i64) e w' base ok (.slice (some ⟨g, 0, none⟩) xs.length cap) (xs.mergeSort fun x y => decide (x ≤ y)) ∧ w.grownBy w' (some g) := by
 obtain ⟨hH, hg, _, _, hr⟩ := ints_row (ys := xs.mergeSort fun x y => decide (x ≤ y)) h (by simp)
 refine (slices_Delete_int_int.sort g 0 cap xs w hH hg hl).mono ?_
 rintro e_ w' ⟨rfl, n, os, rfl⟩
 exact ⟨rfl, hr n os, grownBy_sortedI _⟩
theorem delete_ints {e base g cap i : Nat} {ok : Nat → Prop} {xs : List Int} {w : World} (h : Kd.R (Kd.int .i64) e w base ok (.slice (some ⟨g, 0, none⟩) xs.length cap) xs) (hi : i < xs.length) :
  Calls Try.prog 92 #[.slice (some ⟨g, 0, none⟩) xs.length cap, .int .i64 i, .int .i64 (i + 1 : Nat)] w fun e_ w' => e_ = .returned (.slice (some ⟨g, 0, none⟩) (xs.length - 1) cap) ∧ Kd.R (Kd.int .i64) e w' base ok (.slice (some ⟨g, 0, none⟩) (xs.length - 1) cap) (xs.take i ++ xs.drop (i + 1)) ∧ w.grownBy w' (some g) := by
 have hl : (xs.take i ++ xs.drop (i + 1) ++ List.replicate (i + 1 - i) (0 : Int)).length = xs.length := by simp; omega
 obtain ⟨hH, hg, h1, h2, hr⟩ := ints_row (ys := xs.take i ++ xs.drop (i + 1) ++ List.replicate (i + 1 - i) (0 : Int)) h hl
 refine (slices_Delete_int_int.del g 0 cap i (i + 1) xs w hH h1 (by simpa [maxLen] using h2) (by omega) (by omega)).mono ?_
 rintro e_ w' ⟨rfl, n, rfl⟩
 have hr' := hr n #[]
 have hgr := grownBy_sortedI (w := w) (g := g) (n := n) (os := #[]) (xs.take i ++ xs.drop (i + 1) ++ List.replicate (i + 1 - i) (0 : Int)).toArray
 rw [grow_empty] at hr' hgr
 refine ⟨by rw [show i + 1 - i = 1 by omega], ?_, hgr⟩
 have := Kd.R_take hr' (m := xs.length - 1) (by rw [hl]; omega)
 rw [List.take_left' (l₁ := xs.take i ++ xs.drop (i + 1)) (by simp; omega)] at this
 exact this
end
def slices_Delete_int_int.f (l0 : List Int) (a1 a2 : Int) : Option (List Int) := if 0 ≤ a1 ∧ a1 ≤ a2 ∧ a2 ≤ (l0.length : Int) then some (l0.take a1.toNat ++ l0.drop a2.toNat) else none
theorem delete_at {e base g cap : Nat} {x : Int} {ok : Nat → Prop} {xs r : List Int} {w : World} (h : Kd.R (Kd.int .i64) e w base ok (.slice (some ⟨g, 0, none⟩) xs.length cap) xs) (h0 : 0 ≤ x) (h1 : x < xs.length) (hr : slices_Delete_int_int.f xs x (wrap64 (x + 1)) = some r) :
  Calls Try.prog 92 #[.slice (some ⟨g, 0, none⟩) xs.length cap, .int .i64 x, .int .i64 (wrap64 (x + 1))] w fun e_ w' => e_ = .returned (.slice (some ⟨g, 0, none⟩) r.length cap) ∧ Kd.R (Kd.int .i64) e w' base ok (.slice (some ⟨g, 0, none⟩) r.length cap) r ∧ w.grownBy w' (some g) := by
 obtain ⟨_, _, q1, q2, _⟩ := ints_row (ys := xs) h rfl
 have hwr : wrap64 (x + 1) = x + 1 := by simp only [maxLen] at q2; unfold wrap64; omega
 rw [hwr] at hr ⊢
 obtain ⟨i, rfl⟩ := Int.eq_ofNat_of_zero_le h0
 have hd := delete_ints (i := i) h (by omega)
 unfold slices_Delete_int_int.f at hr
 rw [if_pos (by omega)] at hr
 obtain rfl := Option.some.inj hr
 have e2 : ((i : Int) + 1).toNat = i + 1 := by omega
 rw [Int.toNat_natCast, e2]
 have e1 : (xs.take i ++ xs.drop (i + 1)).length = xs.length - 1 := by simp; omega
 rw [e1]
 exact hd

end Go.Proofs.Ytlccpkggdmngaaa.G
