/- Triangulate: both functions cut off the same ears. The bounds stand in each theorem. -/
import Derived.Test.YtlccpkggdmngaaaPqK
import Derived.Test.YtlccpkggdmngaaaPkk
import Derived.Test.YtlccpkggdmngaaaF48
import Derived.Test.YtlccpkggdmngaaaF49
namespace Go.Proofs.Ytlccpkggdmngaaa.G
open Go.RowKit Go.Proofs.YtlccpkggdmngaaaW.PrintWords Go.Proofs.YtlccpkggdmngaaaW.PrintLast Go.Proofs.YtlccpkggdmngaaaW.PrintMore
set_option linter.unusedSimpArgs false
set_option linter.unusedVariables false
/-- The corners that are left. -/
def cornersOf (l : List Pt) (x : List Int) : List Pt := x.map fun i => rd_T27 l i
def inRange (l : List Pt) (x : List Int) : Prop := ∀ i ∈ x, 0 ≤ i ∧ i < (l.length : Int)
theorem rd_nat (x : List Int) (i : Nat) (h : i < x.length) : rd x (i : Int) = x[i] := by
  simp [rd, List.getD_eq_getElem?_getD, List.getElem?_eq_getElem h]
theorem sort_three (a b c : Int) : [a, b, c].mergeSort (fun x y => decide (x ≤ y)) = if a ≤ b then (if b ≤ c then [a, b, c] else if a ≤ c then [a, c, b] else [c, a, b]) else (if a ≤ c then [b, a, c] else if b ≤ c then [b, c, a] else [c, b, a]) := by
  by_cases h1 : a ≤ b <;> by_cases h2 : b ≤ c <;> by_cases h3 : a ≤ c
  all_goals simp [List.mergeSort, List.MergeSort.Internal.splitInTwo, List.splitAt, List.splitAt.go, h1, h2, h3]
  all_goals omega
theorem three_same {x y z x' y' z' : Int} (h1 : x = x') (h2 : y = y') (h3 : z = z') : ([x, y, z] : List Int) = [x', y', z'] := by rw [h1, h2, h3]
theorem three_eq {a b c : Int} (ha : 0 ≤ a ∧ a < 100) (hb : 0 ≤ b ∧ b < 100) (hc : 0 ≤ c ∧ c < 100) : spec_l05Three.f a b c = some ([a, b, c].mergeSort fun x y => decide (x ≤ y)) := by
  unfold spec_l05Three.f
  rw [sort_three]
  congr 1
  have hmn : ∀ x y : Int, mn x y = if y < x then y else x := fun _ _ => rfl
  have hmx : ∀ x y : Int, mx x y = if x < y then y else x := fun _ _ => rfl
  by_cases h1 : a ≤ b <;> by_cases h2 : b ≤ c <;> by_cases h3 : a ≤ c
  all_goals first
    | (exfalso; omega)
    | (simp only [h1, h2, h3, if_true, if_false, ↓reduceIte]
       refine three_same ?_ ?_ ?_
       · simp only [hmn]; (repeat' split) <;> omega
       · simp only [hmn, hmx, wrap64]; (repeat' split) <;> omega
       · simp only [hmx]; (repeat' split) <;> omega)
theorem tri_sp_l0 {l : List Pt} (hl : l.length ≤ 10) (d : Nat) : ∀ (k i : Nat), i + d = l.length → spec_Triangulate.l0 (k + d + 1) l ((List.range i).map Int.ofNat) (l.length : Int) (i : Int) = spec_Triangulate.l1 k l ((List.range l.length).map Int.ofNat) [] := by
  induction d with
  | zero =>
    intro k i hi
    simp only [spec_Triangulate.l0]
    rw [if_neg (by omega), show i = l.length by omega]
  | succ d ih =>
    intro k i hi
    have h := ih k (i + 1) (by omega)
    rw [List.range_succ, List.map_append] at h
    rw [show k + (d + 1) + 1 = (k + d + 1) + 1 by omega]
    simp only [spec_Triangulate.l0]
    rw [if_pos (by omega), if_pos (by simp; omega), wrap64_id (by omega) (by omega)]
    exact h
theorem tri_im_l0 {l : List Pt} (hl : l.length ≤ 10) (d : Nat) : ∀ (k i : Nat), i + d = l.length → impl_Triangulate.l0 (k + d + 1) l ((List.range i).map Int.ofNat) (l.length : Int) (i : Int) = impl_Triangulate.l1 k l ((List.range l.length).map Int.ofNat) [] := by
  induction d with
  | zero =>
    intro k i hi
    simp only [impl_Triangulate.l0]
    rw [if_neg (by omega), show i = l.length by omega]
  | succ d ih =>
    intro k i hi
    have h := ih k (i + 1) (by omega)
    rw [List.range_succ, List.map_append] at h
    rw [show k + (d + 1) + 1 = (k + d + 1) + 1 by omega]
    simp only [impl_Triangulate.l0]
    rw [if_pos (by omega), if_pos (by simp; omega), wrap64_id (by omega) (by omega)]
    exact h
theorem corners_take {l : List Pt} {x : List Int} {i : Nat} (h : i < x.length) : cornersOf l (x.take (i + 1)) = cornersOf l (x.take i) ++ [(⟨(rd_T27 l (rd x (i : Int))).f0, (rd_T27 l (rd x (i : Int))).f1⟩ : Pt)] := by
  unfold cornersOf
  rw [rd_nat x i h, List.take_succ_eq_append_getElem h, List.map_append]; rfl
theorem tri_sp_l2 {l : List Pt} {x : List Int} {out : List (List Int)} (hx : inRange l x) (hn : x.length ≤ 10) (d : Nat) : ∀ (k i : Nat), i + d = x.length → spec_Triangulate.l2 (k + d + 1) l x out (cornersOf l (x.take i)) x (x.length : Int) (i : Int) = spec_Triangulate.l3 k l x out (cornersOf l x) (-1) (x.length : Int) 0 := by
  induction d with
  | zero =>
    intro k i hi
    simp only [spec_Triangulate.l2]
    rw [if_neg (by omega), List.take_of_length_le (by omega)]
    simp [cornersOf]
  | succ d ih =>
    intro k i hi
    have h := ih k (i + 1) (by omega)
    have hlt : i < x.length := by omega
    rw [corners_take hlt] at h
    have hm := hx (rd x (i : Int)) (by rw [rd_nat x i hlt]; exact List.getElem_mem hlt)
    rw [show k + (d + 1) + 1 = (k + d + 1) + 1 by omega]
    simp only [spec_Triangulate.l2]
    rw [if_pos (by omega), if_pos (by omega), if_pos (by omega), if_pos hm.1, if_pos hm.2, if_pos (by simp [cornersOf]; omega), wrap64_id (by omega) (by omega)]
    exact h
theorem tri_im_l2 {l : List Pt} {x : List Int} {out : List (List Int)} {n : Int} (hx : inRange l x) (hn : x.length ≤ 10) (d : Nat) : ∀ (k i : Nat), i + d = x.length → impl_Triangulate.l2 (k + d + 1) l x out n (cornersOf l (x.take i)) x (x.length : Int) (i : Int) = impl_Triangulate.l3 k l x out n (cornersOf l x) 0 := by
  induction d with
  | zero =>
    intro k i hi
    simp only [impl_Triangulate.l2]
    rw [if_neg (by omega), List.take_of_length_le (by omega)]
  | succ d ih =>
    intro k i hi
    have h := ih k (i + 1) (by omega)
    have hlt : i < x.length := by omega
    rw [corners_take hlt] at h
    have hm := hx (rd x (i : Int)) (by rw [rd_nat x i hlt]; exact List.getElem_mem hlt)
    rw [show k + (d + 1) + 1 = (k + d + 1) + 1 by omega]
    simp only [impl_Triangulate.l2]
    rw [if_pos (by omega), if_pos (by omega), if_pos (by omega), if_pos hm.1, if_pos hm.2, if_pos (by simp [cornersOf]; omega), wrap64_id (by omega) (by omega)]
    exact h
theorem tri_skip {l now : List Pt} {x : List Int} {out : List (List Int)} (n : Nat) (hn : n ≤ 10) (j : Int) (hj : 0 ≤ j) (d : Nat) : ∀ (k i : Nat), i + d = n → spec_Triangulate.l3 (k + d) l x out now j (n : Int) (i : Int) = spec_Triangulate.l3 k l x out now j (n : Int) (n : Int) := by
  induction d with
  | zero => intro k i hi; rw [show i = n by omega]; rfl
  | succ d ih =>
    intro k i hi
    have h := ih k (i + 1) (by omega)
    rw [show k + (d + 1) = (k + d) + 1 by omega]
    rw [spec_Triangulate.l3, if_pos (by omega), if_neg (by omega), wrap64_id (by omega) (by omega)]
    exact h
/-- The search for the first ear. -/
theorem tri_scan {l now : List Pt} {x : List Int} {out : List (List Int)} (hF : Few now) (hx : x.length = now.length) (d : Nat) : ∀ i : Nat, i + d = now.length → ∃ j c : Nat, j ≤ now.length ∧
    (∀ k, 3000 < k → impl_Triangulate.l3 (k + d + 1) l x out (x.length : Int) now (i : Int) = impl_Triangulate.j4 (k + c) l x out (x.length : Int) (j : Int)) ∧
    (∀ k, 3000 < k → spec_Triangulate.l3 (k + d) l x out now (-1) (now.length : Int) (i : Int) = spec_Triangulate.l3 k l x out now (if j = now.length then -1 else (j : Int)) (now.length : Int) (now.length : Int)) := by
  have h10 := hF.n10
  induction d with
  | zero =>
    intro i hi
    refine ⟨now.length, 0, Nat.le_refl _, fun k hk => ?_, fun k hk => ?_⟩
    · rw [impl_Triangulate.l3, if_neg (by omega), show i = now.length by omega]; rfl
    · rw [if_pos rfl, show i = now.length by omega]; rfl
  | succ d ih =>
    intro i hi
    have hlt : i < now.length := by omega
    by_cases hE : Ear now i
    · have es : ∀ k, 3000 < k → spec_l05Ear.f k now (i : Int) = some true ∧ impl_isEar.f k now (i : Int) = some true := fun k hk => by
        obtain ⟨r, e1, e2, e3⟩ := ear_both hF hlt k k hk hk
        rw [e3.2 hE] at e1 e2; exact ⟨e1, e2⟩
      refine ⟨i, d + 1, by omega, fun k hk => ?_, fun k hk => ?_⟩
      · rw [show k + (d + 1) + 1 = (k + d + 1) + 1 by omega, impl_Triangulate.l3, if_pos (by omega), (es (k + d + 1) (by omega)).2, Option.bind_some, if_pos rfl]; rfl
      · rw [if_neg (by omega), show k + (d + 1) = (k + d) + 1 by omega, spec_Triangulate.l3, if_pos (by omega), if_pos (by omega), (es (k + d) (by omega)).1, Option.bind_some, if_pos rfl, wrap64_id (by omega) (by omega)]
        exact tri_skip now.length h10 (i : Int) (by omega) d k (i + 1) (by omega)
    · have es : ∀ k, 3000 < k → spec_l05Ear.f k now (i : Int) = some false ∧ impl_isEar.f k now (i : Int) = some false := fun k hk => by
        obtain ⟨r, e1, e2, e3⟩ := ear_both hF hlt k k hk hk
        have : r = false := by cases r with | false => rfl | true => exact absurd (e3.1 rfl) hE
        rw [this] at e1 e2; exact ⟨e1, e2⟩
      obtain ⟨j, c, h1, h2, h3⟩ := ih (i + 1) (by omega)
      refine ⟨j, c, h1, fun k hk => ?_, fun k hk => ?_⟩
      · rw [show k + (d + 1) + 1 = (k + d + 1) + 1 by omega, impl_Triangulate.l3, if_pos (by omega), (es (k + d + 1) (by omega)).2, Option.bind_some, if_neg (by decide), wrap64_id (by omega) (by omega)]
        exact h2 k hk
      · rw [show k + (d + 1) = (k + d) + 1 by omega, spec_Triangulate.l3, if_pos (by omega), if_pos (by omega), (es (k + d) (by omega)).1, Option.bind_some, if_neg (by decide), wrap64_id (by omega) (by omega)]
        exact h3 k hk
/-- The triangle at the corner j, and what is left. -/
def triAt (x : List Int) (j : Nat) : List Int := [rd x (((j + x.length - 1) % x.length : Nat) : Int), rd x (j : Int), rd x (((j + 1) % x.length : Nat) : Int)].mergeSort fun p q => decide (p ≤ q)
def cutAt (x : List Int) (j : Nat) : List Int := x.take j ++ x.drop (j + 1)
theorem prev_of {n j : Nat} (hj : j < n) (hn : n ≤ 1000000) : Int.tmod (wrap64 ((wrap64 ((j : Int) + (n : Int))) - 1)) (n : Int) = (((j + n - 1) % n : Nat) : Int) := by
  have h := prev_at (List.replicate n z27) j (by simpa using hj) (by simpa using hn)
  simpa using h
theorem rd_small {x : List Int} {n : Int} (hx : ∀ i ∈ x, 0 ≤ i ∧ i < n) (hn : n ≤ 100) {i : Nat} (hi : i < x.length) : 0 ≤ rd x (i : Int) ∧ rd x (i : Int) < 100 := by
  have := hx _ (List.getElem_mem hi)
  rw [rd_nat x i hi]; omega
theorem im_cut {l : List Pt} {x : List Int} {out : List (List Int)} (h3 : 3 ≤ x.length) (h10 : x.length ≤ 10) (ho : out.length ≤ 1000) {j : Nat} (hj : j < x.length) (k : Nat) :
    impl_Triangulate.j4 (k + 1) l x out (x.length : Int) (j : Int) = impl_Triangulate.l1 k l (cutAt x j) (out ++ [triAt x j]) := by
  have m1 := Nat.mod_lt (j + x.length - 1) (show 0 < x.length by omega)
  have m2 := Nat.mod_lt (j + 1) (show 0 < x.length by omega)
  have wi : wrap64 ((j : Int) + 1) = ((j + 1 : Nat) : Int) := by rw [wrap64_id (by omega) (by omega)]; rfl
  rw [impl_Triangulate.j4, if_neg (by omega), if_neg (by omega), prev_of hj (by omega), wi, tmod_at, if_pos (by omega), if_pos (by omega), if_pos (by omega), if_pos (by omega), if_pos (by omega), if_pos (by omega)]
  unfold impl_Triangulate_1.f slices_Delete_int_int.f
  rw [if_pos (by omega), Option.bind_some, if_pos (by omega), Option.bind_some, Int.toNat_natCast, Int.toNat_natCast]
  rfl
theorem sp_cut {l now : List Pt} {x : List Int} {out : List (List Int)} (hx : inRange l x) (hl : l.length ≤ 10) (h3 : 3 ≤ x.length) (h10 : x.length ≤ 10) (ho : out.length ≤ 1000) {j : Nat} (hj : j < x.length) (k : Nat) :
    spec_Triangulate.l3 (k + 1) l x out now (j : Int) (x.length : Int) (x.length : Int) = spec_Triangulate.l1 k l (cutAt x j) (out ++ [triAt x j]) := by
  have m1 := Nat.mod_lt (j + x.length - 1) (show 0 < x.length by omega)
  have m2 := Nat.mod_lt (j + 1) (show 0 < x.length by omega)
  have wi : wrap64 ((j : Int) + 1) = ((j + 1 : Nat) : Int) := by rw [wrap64_id (by omega) (by omega)]; rfl
  have hs : ∀ i ∈ x, 0 ≤ i ∧ i < (l.length : Int) := hx
  rw [spec_Triangulate.l3, if_neg (by omega), if_neg (by omega), if_neg (by omega), prev_of hj (by omega), wi, tmod_at, if_pos (by omega), if_pos (by omega), if_pos (by omega), if_pos (by omega), if_pos (by omega), if_pos (by omega), three_eq (rd_small hs (by omega) m1) (rd_small hs (by omega) hj) (rd_small hs (by omega) m2), Option.bind_some, if_pos (by omega), Option.bind_some, if_pos (by omega), Option.bind_some, if_pos (by simp; omega), Option.bind_some, if_pos (by omega), if_pos (by omega), Option.bind_some, if_pos (by simp; omega), Int.toNat_natCast, Int.toNat_natCast]
  rfl
theorem triAt_length (x : List Int) (j : Nat) : (triAt x j).length = 3 := by simp [triAt]
theorem tri_main {l : List Pt} (hP : Few l) (d : Nat) : ∀ (x : List Int) (out : List (List Int)), x.length = 3 + d → d ≤ 7 → inRange l x → out.length + d ≤ 100 → (∀ y ∈ out, y.length = 3) →
    ∃ r : List (List Int) × Bool, fewR r.1 ∧ ∀ k, 4000 + 100 * d < k → spec_Triangulate.l1 k l x out = some r ∧ impl_Triangulate.l1 k l x out = some r := by
  have hl := hP.n10
  induction d with
  | zero =>
    intro x out hxl _ hx ho hy
    have hs : ∀ i ∈ x, 0 ≤ i ∧ i < (l.length : Int) := hx
    have b0 : 0 ≤ rd x 0 ∧ rd x 0 < 100 := rd_small hs (by omega) (show 0 < x.length by omega)
    have b1 : 0 ≤ rd x 1 ∧ rd x 1 < 100 := rd_small hs (by omega) (show 1 < x.length by omega)
    have b2 : 0 ≤ rd x 2 ∧ rd x 2 < 100 := rd_small hs (by omega) (show 2 < x.length by omega)
    refine ⟨(out ++ [[rd x 0, rd x 1, rd x 2].mergeSort fun p q => decide (p ≤ q)], true), ⟨by simp; omega, ?_⟩, fun k hk => ?_⟩
    · intro y hy'
      rcases List.mem_append.1 hy' with h | h
      · have := hy y h; omega
      · obtain rfl := List.mem_singleton.1 h; simp
    · obtain ⟨k, rfl⟩ : ∃ m, k = m + 1 := ⟨k - 1, by omega⟩
      constructor
      · rw [spec_Triangulate.l1, if_neg (by omega), if_pos (by omega), if_pos (by omega), if_pos (by omega), three_eq b0 b1 b2, Option.bind_some, if_pos (by omega)]
      · rw [impl_Triangulate.l1, if_neg (by omega), if_pos (by omega), if_pos (by omega), if_pos (by omega), impl_Triangulate_1.f, if_pos (by omega), Option.bind_some]
  | succ d ih =>
    intro x out hxl hd hx ho hy
    have hnl : (cornersOf l x).length = x.length := by simp [cornersOf]
    have hF : Few (cornersOf l x) := ⟨by omega, by omega, fun p hp => by
      obtain ⟨i, hi, rfl⟩ := List.mem_map.1 hp
      obtain ⟨i0, i1⟩ := hx i hi
      obtain ⟨m, rfl⟩ := Int.eq_ofNat_of_zero_le i0
      rw [rd_pt l m (by omega)]
      exact hP.okp _ (pt_mem l m (by omega))⟩
    obtain ⟨j, c, h1, h2, h3⟩ := tri_scan (l := l) (out := out) hF hnl.symm x.length 0 (by omega)
    have start : ∀ k, 3000 < k → spec_Triangulate.l1 (k + 2 * x.length + 2) l x out = spec_Triangulate.l3 k l x out (cornersOf l x) (if j = (cornersOf l x).length then -1 else (j : Int)) (x.length : Int) (x.length : Int) := fun k hk => by
      rw [show k + 2 * x.length + 2 = (k + x.length + x.length + 1) + 1 by omega, spec_Triangulate.l1, if_pos (by omega)]
      have e := tri_sp_l2 (out := out) hx (by omega) x.length (k + x.length) 0 (by omega)
      have e' := h3 k hk
      rw [hnl] at e' ⊢
      simp only [List.take_zero] at e
      exact e.trans e'
    have start' : ∀ k, 3000 < k → impl_Triangulate.l1 (k + 2 * x.length + 3) l x out = impl_Triangulate.j4 (k + c) l x out (x.length : Int) (j : Int) := fun k hk => by
      rw [show k + 2 * x.length + 3 = ((k + x.length + 1) + x.length + 1) + 1 by omega, impl_Triangulate.l1, if_pos (by omega)]
      have e := tri_im_l2 (out := out) (n := (x.length : Int)) hx (by omega) x.length (k + x.length + 1) 0 (by omega)
      simp only [List.take_zero] at e
      exact e.trans (h2 k hk)
    by_cases hj : j = (cornersOf l x).length
    · refine ⟨([], false), ⟨by simp, by simp⟩, fun k hk => ⟨?_, ?_⟩⟩
      · obtain ⟨m, rfl⟩ : ∃ m, k = (m + 1) + 2 * x.length + 2 := ⟨k - 2 * x.length - 3, by omega⟩
        rw [start (m + 1) (by omega), if_pos hj, spec_Triangulate.l3, if_neg (by omega), if_pos (by omega)]
      · obtain ⟨m, rfl⟩ : ∃ m, k = (m + 1) + 2 * x.length + 3 := ⟨k - 2 * x.length - 4, by omega⟩
        rw [start' (m + 1) (by omega), show m + 1 + c = (m + c) + 1 by omega, impl_Triangulate.j4, if_pos (by omega)]
    · have hjx : j < x.length := by omega
      have hcl : (cutAt x j).length = 3 + d := by simp [cutAt]; omega
      obtain ⟨r, hr, hr'⟩ := ih (cutAt x j) (out ++ [triAt x j]) hcl (by omega) (fun i hi => by
        rcases List.mem_append.1 hi with h | h
        · exact hx i (List.mem_of_mem_take h)
        · exact hx i (List.mem_of_mem_drop h)) (by simp; omega) (fun y hy' => by
        rcases List.mem_append.1 hy' with h | h
        · exact hy y h
        · obtain rfl := List.mem_singleton.1 h; exact triAt_length x j)
      refine ⟨r, hr, fun k hk => ⟨?_, ?_⟩⟩
      · obtain ⟨m, rfl⟩ : ∃ m, k = (m + 1) + 2 * x.length + 2 := ⟨k - 2 * x.length - 3, by omega⟩
        rw [start (m + 1) (by omega), if_neg hj, sp_cut hx hl (by omega) (by omega) (by omega) hjx]
        exact (hr' m (by omega)).1
      · obtain ⟨m, rfl⟩ : ∃ m, k = (m + 1) + 2 * x.length + 3 := ⟨k - 2 * x.length - 4, by omega⟩
        rw [start' (m + 1) (by omega), show m + 1 + c = (m + c) + 1 by omega, im_cut (by omega) (by omega) (by omega) hjx]
        exact (hr' (m + c) (by omega)).2
theorem all_Triangulate (l : List Pt) (hl : l.length ≤ 1048576) : ∃ r : List (List Int) × Bool, fewR r.1 ∧ ∀ k, 1048576 < k → spec_Triangulate.f k l = some r ∧ impl_Triangulate.f k l = some r := by
  by_cases hp : impl_PolygonOk.ok l = true
  · have hF := ((impl_ok_iff _).1 hp).few
    have h10 := hF.n10
    have h3 := hF.n3
    obtain ⟨r, hr, hr'⟩ := tri_main hF (l.length - 3) ((List.range l.length).map Int.ofNat) [] (by simp; omega) (by omega) (fun i hi => by
      obtain ⟨m, hm, rfl⟩ := List.mem_map.1 hi
      have := List.mem_range.1 hm
      exact ⟨Int.natCast_nonneg m, by simpa using this⟩) (by simp; omega) (by simp)
    refine ⟨r, hr, fun k hk => ?_⟩
    unfold spec_Triangulate.f impl_Triangulate.f
    rw [spec_PolygonOk_eq _ (by omega) _ (by omega), impl_PolygonOk_some]
    simp only [Option.bind_some]
    rw [if_pos hp, if_pos hp]
    obtain ⟨m, rfl⟩ : ∃ m, k = m + l.length + 1 := ⟨k - l.length - 1, by omega⟩
    have e1 := tri_sp_l0 h10 l.length m 0 (by omega)
    have e2 := tri_im_l0 h10 l.length m 0 (by omega)
    exact ⟨e1.trans (hr' m (by omega)).1, e2.trans (hr' m (by omega)).2⟩
  · refine ⟨([], false), ⟨by simp, by simp⟩, fun k hk => ?_⟩
    unfold spec_Triangulate.f impl_Triangulate.f
    rw [spec_PolygonOk_eq _ (by omega) _ (by omega), impl_PolygonOk_some]
    simp only [Option.bind_some]
    rw [if_neg hp, if_neg hp]; exact ⟨rfl, rfl⟩
end Go.Proofs.Ytlccpkggdmngaaa.G
