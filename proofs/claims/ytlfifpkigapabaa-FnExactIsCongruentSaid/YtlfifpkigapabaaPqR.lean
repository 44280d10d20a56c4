/- Motions of a list of points, by the reference. The bounds stand in each theorem. -/
import Derived.Test.YtlfifpkigapabaaPA
import Derived.Test.YtlfifpkigapabaaF52
namespace Go.Proofs.Ytlfifpkigapabaa.G
open Go.RowKit Go.Proofs.YtlfifpkigapabaaW.PrintWords Go.Proofs.YtlfifpkigapabaaW.PrintLast Go.Proofs.YtlfifpkigapabaaW.PrintMore
set_option linter.unusedSimpArgs false
set_option linter.unusedVariables false
/-- Quarter turns. -/
def rotW : Nat → Int × Int → Int × Int
  | 0, p => p
  | n + 1, p => rotW n (wrap64 (-p.2), p.1)
def apM (m x y : Int) : Int × Int := rotW (Int.tmod m 4).toNat (if m ≥ 4 then (wrap64 (-x), y) else (x, y))
theorem apply_l0 (m : Int) (t : Nat) (ht : Int.tmod m 4 = (t : Int)) (hs : t ≤ 3) (d : Nat) : ∀ (k i : Nat) (x y : Int), i + d = t → d < k → spec_l06Apply.l0 k m (i : Int) x y = some (rotW d (x, y)) := by
  induction d with
  | zero =>
    intro k i x y hi hk
    obtain ⟨k, rfl⟩ : ∃ m, k = m + 1 := ⟨k - 1, by omega⟩
    simp only [spec_l06Apply.l0]; rw [ht, if_neg (by omega)]; rfl
  | succ d ih =>
    intro k i x y hi hk
    obtain ⟨k, rfl⟩ : ∃ m, k = m + 1 := ⟨k - 1, by omega⟩
    have wi : wrap64 ((i : Int) + 1) = ((i + 1 : Nat) : Int) := by rw [wrap64_id (by omega) (by omega)]; rfl
    simp only [spec_l06Apply.l0]; rw [ht, wi, if_pos (by omega)]
    exact ih k (i + 1) _ _ (by omega) (by omega)
theorem spec_apply_eq {m : Int} (h0 : 0 ≤ m) (h7 : m ≤ 7) (x y : Int) (k : Nat) (hk : 10 < k) : spec_l06Apply.f k x y m = some (apM m x y) := by
    obtain ⟨k, rfl⟩ : ∃ m, k = m + 1 := ⟨k - 1, by omega⟩
    have ht : Int.tmod m 4 = ((m.toNat % 4 : Nat) : Int) := by
      have := tmod_at m.toNat 4
      rw [Int.toNat_of_nonneg h0] at this; exact this
    have hs : m.toNat % 4 ≤ 3 := by omega
    unfold spec_l06Apply.f apM
    rw [ht, Int.toNat_natCast]
    by_cases h : m ≥ 4
    · rw [if_pos h, if_pos h, spec_l06Apply.j0]; exact apply_l0 m _ ht hs _ k 0 _ _ (by omega) (by omega)
    · rw [if_neg h, if_neg h, spec_l06Apply.j0]; exact apply_l0 m _ ht hs _ k 0 _ _ (by omega) (by omega)
def mvL (m : Int) (l : List Pt) : List Pt := l.map fun p => ⟨(apM m p.f0 p.f1).1, (apM m p.f0 p.f1).2⟩
theorem mvL_length (m : Int) (l : List Pt) : (mvL m l).length = l.length := by simp [mvL]
def subL (a b : Int) (l : List Pt) : List Pt := l.map fun p => ⟨wrap64 (p.f0 - a), wrap64 (p.f1 - b)⟩
theorem subL_length (a b : Int) (l : List Pt) : (subL a b l).length = l.length := by simp [subL]
def loX (x : Int) (l : List Pt) : Int := l.foldl (fun a p => mn a p.f0) x
def loY (x : Int) (l : List Pt) : Int := l.foldl (fun a p => mn a p.f1) x
theorem loX_take (x : Int) {l : List Pt} {i : Nat} (h : i < l.length) : loX x (l.take (i + 1)) = mn (loX x (l.take i)) l[i].f0 := by
  unfold loX; rw [List.take_succ_eq_append_getElem h, List.foldl_append]; rfl
theorem loY_take (x : Int) {l : List Pt} {i : Nat} (h : i < l.length) : loY x (l.take (i + 1)) = mn (loY x (l.take i)) l[i].f1 := by
  unfold loY; rw [List.take_succ_eq_append_getElem h, List.foldl_append]; rfl
/-- The list moved so that its least numbers are 0. -/
def cornerL (l : List Pt) : List Pt := subL (loX (rd_T38 l 0).f0 l) (loY (rd_T38 l 0).f1 l) l
theorem cornerL_length (l : List Pt) : (cornerL l).length = l.length := subL_length _ _ _
theorem corner_l1 (a b : Int) {l : List Pt} (hn : l.length ≤ 1000000) (d : Nat) : ∀ (k i : Nat), i + d = l.length → d < k → spec_l06Corner.l1 k a b (subL a b (l.take i)) l (l.length : Int) (i : Int) = some (subL a b l) := by
  induction d with
  | zero =>
    intro k i hi hk
    obtain ⟨k, rfl⟩ : ∃ m, k = m + 1 := ⟨k - 1, by omega⟩
    have c1 : ((i : Int) < (l.length : Int)) = False := by rw [eq_iff_iff, iff_false]; omega
    simp only [spec_l06Corner.l1, c1, if_false]
    rw [List.take_of_length_le (by omega)]
  | succ d ih =>
    intro k i hi hk
    obtain ⟨k, rfl⟩ : ∃ m, k = m + 1 := ⟨k - 1, by omega⟩
    have wi : wrap64 ((i : Int) + 1) = ((i + 1 : Nat) : Int) := by rw [wrap64_id (by omega) (by omega)]; rfl
    have hi' : i < l.length := by omega
    have c1 : ((i : Int) < (l.length : Int)) = True := by rw [eq_iff_iff, iff_true]; omega
    have c2 : ((0 : Int) ≤ (i : Int)) = True := by rw [eq_iff_iff, iff_true]; omega
    have hl : (subL a b (l.take i)).length = i := by rw [subL_length]; simp; omega
    have c3 : ((subL a b (l.take i)).length < 8796093022208) = True := by rw [eq_iff_iff, iff_true]; omega
    simp only [spec_l06Corner.l1, c1, c2, c3, if_true, wi, rd_at l i hi']
    have e : subL a b (l.take i) ++ [⟨wrap64 (l[i].f0 - a), wrap64 (l[i].f1 - b)⟩] = subL a b (l.take (i + 1)) := by
      unfold subL; rw [List.take_succ_eq_append_getElem hi', List.map_append]; rfl
    rw [e]
    exact ih k (i + 1) (by omega) (by omega)
theorem corner_l0 (x y : Int) {l : List Pt} (hn : l.length ≤ 1000) (d : Nat) : ∀ (k i : Nat), i + d = l.length → 2000 + d < k → spec_l06Corner.l0 k l (loX x (l.take i)) (loY y (l.take i)) l (l.length : Int) (i : Int) = some (subL (loX x l) (loY y l) l) := by
  induction d with
  | zero =>
    intro k i hi hk
    obtain ⟨k, rfl⟩ : ∃ m, k = m + 1 := ⟨k - 1, by omega⟩
    have c1 : ((i : Int) < (l.length : Int)) = False := by rw [eq_iff_iff, iff_false]; omega
    simp only [spec_l06Corner.l0, c1, if_false]
    rw [List.take_of_length_le (by omega)]
    exact corner_l1 _ _ (l := l) (by omega) l.length k 0 (by omega) (by omega)
  | succ d ih =>
    intro k i hi hk
    obtain ⟨k, rfl⟩ : ∃ m, k = m + 1 := ⟨k - 1, by omega⟩
    have wi : wrap64 ((i : Int) + 1) = ((i + 1 : Nat) : Int) := by rw [wrap64_id (by omega) (by omega)]; rfl
    have hi' : i < l.length := by omega
    have c1 : ((i : Int) < (l.length : Int)) = True := by rw [eq_iff_iff, iff_true]; omega
    have c2 : ((0 : Int) ≤ (i : Int)) = True := by rw [eq_iff_iff, iff_true]; omega
    simp only [spec_l06Corner.l0, c1, c2, if_true, wi, rd_at l i hi']
    rw [← loX_take x hi', ← loY_take y hi']
    exact ih k (i + 1) (by omega) (by omega)
theorem spec_corner_eq {l : List Pt} (h0 : 0 < l.length) (hn : l.length ≤ 1000) (k : Nat) (hk : 3000 < k) : spec_l06Corner.f k l = some (cornerL l) := by
  unfold spec_l06Corner.f
  rw [if_pos (by omega)]
  exact corner_l0 (rd_T38 l 0).f0 (rd_T38 l 0).f1 hn l.length k 0 (by omega) (by omega)
theorem move_l0 {m : Int} (hm : 0 ≤ m) (h7 : m ≤ 7) {l : List Pt} (h0 : 0 < l.length) (hn : l.length ≤ 1000) (d : Nat) : ∀ (k i : Nat), i + d = l.length → 4000 + d < k → spec_l06Move.l0 k m (mvL m (l.take i)) l (l.length : Int) (i : Int) = some (cornerL (mvL m l)) := by
  have hv := mvL_length m l
  induction d with
  | zero =>
    intro k i hi hk
    obtain ⟨k, rfl⟩ : ∃ m, k = m + 1 := ⟨k - 1, by omega⟩
    have c1 : ((i : Int) < (l.length : Int)) = False := by rw [eq_iff_iff, iff_false]; omega
    simp only [spec_l06Move.l0, c1, if_false]
    rw [List.take_of_length_le (by omega), spec_corner_eq (by omega) (by omega) k (by omega)]; rfl
  | succ d ih =>
    intro k i hi hk
    obtain ⟨k, rfl⟩ : ∃ m, k = m + 1 := ⟨k - 1, by omega⟩
    have wi : wrap64 ((i : Int) + 1) = ((i + 1 : Nat) : Int) := by rw [wrap64_id (by omega) (by omega)]; rfl
    have hi' : i < l.length := by omega
    have c1 : ((i : Int) < (l.length : Int)) = True := by rw [eq_iff_iff, iff_true]; omega
    have c2 : ((0 : Int) ≤ (i : Int)) = True := by rw [eq_iff_iff, iff_true]; omega
    have hl : (mvL m (l.take i)).length = i := by rw [mvL_length]; simp; omega
    have c3 : ((mvL m (l.take i)).length < 8796093022208) = True := by rw [eq_iff_iff, iff_true]; omega
    simp only [spec_l06Move.l0, c1, c2, c3, if_true, wi, rd_at l i hi', spec_apply_eq hm h7 _ _ k (show 10 < k by omega), Option.bind_some]
    have e : mvL m (l.take i) ++ [⟨(apM m l[i].f0 l[i].f1).1, (apM m l[i].f0 l[i].f1).2⟩] = mvL m (l.take (i + 1)) := by
      unfold mvL; rw [List.take_succ_eq_append_getElem hi', List.map_append]; rfl
    rw [e]
    exact ih k (i + 1) (by omega) (by omega)
theorem spec_move_eq {m : Int} (hm : 0 ≤ m) (h7 : m ≤ 7) {l : List Pt} (h0 : 0 < l.length) (hn : l.length ≤ 1000) (k : Nat) (hk : 6000 < k) : spec_l06Move.f k l m = some (cornerL (mvL m l)) := by
  unfold spec_l06Move.f
  exact move_l0 hm h7 h0 hn l.length k 0 (by omega) (by omega)
end Go.Proofs.Ytlfifpkigapabaa.G
