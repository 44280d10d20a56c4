/- Motions of a list of points, by the program. The bounds stand in each theorem. -/
import Derived.Test.YtlfifpkigapabaaPqR
import Derived.Test.YtlfifpkigapabaaF57
namespace Go.Proofs.Ytlfifpkigapabaa.G
open Go.RowKit Go.Proofs.YtlfifpkigapabaaW.PrintWords Go.Proofs.YtlfifpkigapabaaW.PrintLast Go.Proofs.YtlfifpkigapabaaW.PrintMore
set_option linter.unusedSimpArgs false
set_option linter.unusedVariables false
theorem moved_l0 (t : Nat) (hs : t ≤ 3) (d : Nat) : ∀ (k i : Nat) (x y : Int), i + d = t → d < k → impl_moved.l0 k (t : Int) (i : Int) x y = some (rotW d (x, y)) := by
  induction d with
  | zero =>
    intro k i x y hi hk
    obtain ⟨k, rfl⟩ : ∃ m, k = m + 1 := ⟨k - 1, by omega⟩
    simp only [impl_moved.l0]; rw [if_neg (by omega)]; rfl
  | succ d ih =>
    intro k i x y hi hk
    obtain ⟨k, rfl⟩ : ∃ m, k = m + 1 := ⟨k - 1, by omega⟩
    have wi : wrap64 ((i : Int) + 1) = ((i + 1 : Nat) : Int) := by rw [wrap64_id (by omega) (by omega)]; rfl
    simp only [impl_moved.l0]; rw [wi, if_pos (by omega)]
    exact ih k (i + 1) _ _ (by omega) (by omega)
theorem impl_moved_eq {m : Int} (h0 : 0 ≤ m) (h7 : m ≤ 7) (x y : Int) (k : Nat) (hk : 10 < k) : impl_moved.f k x y m = some (apM m x y) := by
    obtain ⟨k, rfl⟩ : ∃ m, k = m + 1 := ⟨k - 1, by omega⟩
    have ht : Int.tmod m 4 = ((m.toNat % 4 : Nat) : Int) := by
      have := tmod_at m.toNat 4
      rw [Int.toNat_of_nonneg h0] at this; exact this
    have hs : m.toNat % 4 ≤ 3 := by omega
    unfold impl_moved.f apM
    rw [ht, Int.toNat_natCast]
    by_cases h : m ≥ 4
    · rw [if_pos h, if_pos h, impl_moved.j0, ht]; exact moved_l0 _ hs _ k 0 _ _ (by omega) (by omega)
    · rw [if_neg h, if_neg h, impl_moved.j0, ht]; exact moved_l0 _ hs _ k 0 _ _ (by omega) (by omega)
theorem boxlow_l0 (x y : Int) {l : List Pt} (hn : l.length ≤ 1000000) (d : Nat) : ∀ (k i : Nat) (c e : Int), i + d = l.length → d < k →
    ∃ c' e', impl_box.l0 k l (l.length : Int) (i : Int) (loX x (l.take i)) (loY y (l.take i)) c e = some (loX x l, loY y l, c', e') := by
  induction d with
  | zero =>
    intro k i c e hi hk
    obtain ⟨k, rfl⟩ : ∃ m, k = m + 1 := ⟨k - 1, by omega⟩
    have c1 : ((i : Int) < (l.length : Int)) = False := by rw [eq_iff_iff, iff_false]; omega
    simp only [impl_box.l0, c1, if_false]
    rw [List.take_of_length_le (by omega)]
    exact ⟨c, e, rfl⟩
  | succ d ih =>
    intro k i c e hi hk
    obtain ⟨k, rfl⟩ : ∃ m, k = m + 1 := ⟨k - 1, by omega⟩
    have wi : wrap64 ((i : Int) + 1) = ((i + 1 : Nat) : Int) := by rw [wrap64_id (by omega) (by omega)]; rfl
    have hi' : i < l.length := by omega
    have c1 : ((i : Int) < (l.length : Int)) = True := by rw [eq_iff_iff, iff_true]; omega
    have c2 : ((0 : Int) ≤ (i : Int)) = True := by rw [eq_iff_iff, iff_true]; omega
    simp only [impl_box.l0, c1, c2, if_true, wi, rd_at l i hi']
    rw [← loX_take x hi', ← loY_take y hi']
    exact ih k (i + 1) _ _ (by omega) (by omega)
theorem movedOn_l1 (a b : Int) {l : List Pt} (hn : l.length ≤ 1000000) (d : Nat) : ∀ (k i : Nat), i + d = l.length → d < k → impl_movedOn.l1 k (subL a b (l.take i) ++ l.drop i) (l.length : Int) (i : Int) a b = some (subL a b l) := by
  induction d with
  | zero =>
    intro k i hi hk
    obtain ⟨k, rfl⟩ : ∃ m, k = m + 1 := ⟨k - 1, by omega⟩
    have c1 : ((i : Int) < (l.length : Int)) = False := by rw [eq_iff_iff, iff_false]; omega
    simp only [impl_movedOn.l1, c1, if_false]
    rw [List.take_of_length_le (by omega), List.drop_of_length_le (by omega), List.append_nil]
  | succ d ih =>
    intro k i hi hk
    obtain ⟨k, rfl⟩ : ∃ m, k = m + 1 := ⟨k - 1, by omega⟩
    have wi : wrap64 ((i : Int) + 1) = ((i + 1 : Nat) : Int) := by rw [wrap64_id (by omega) (by omega)]; rfl
    have hi' : i < l.length := by omega
    have c1 : ((i : Int) < (l.length : Int)) = True := by rw [eq_iff_iff, iff_true]; omega
    have c2 : ((0 : Int) ≤ (i : Int)) = True := by rw [eq_iff_iff, iff_true]; omega
    have hl : (subL a b (l.take i)).length = i := by rw [subL_length]; simp; omega
    have hall : (subL a b (l.take i) ++ l.drop i).length = l.length := by rw [List.length_append, hl]; simp; omega
    have hr : rd_T38 (subL a b (l.take i) ++ l.drop i) (i : Int) = l[i] := by
      rw [rd_at _ i (by omega), List.getElem_append_right (by omega)]
      simp [hl]
    simp only [impl_movedOn.l1, hall, c1, c2, if_true, wi, hr, Int.toNat_natCast]
    have e : (subL a b (l.take i) ++ l.drop i).set i ⟨wrap64 (l[i].f0 - a), wrap64 (l[i].f1 - b)⟩ = subL a b (l.take (i + 1)) ++ l.drop (i + 1) := by
      rw [List.set_append_right _ _ (by omega), hl, Nat.sub_self, List.drop_eq_getElem_cons hi', List.set_cons_zero]
      unfold subL; rw [List.take_succ_eq_append_getElem hi', List.map_append, List.append_assoc]; rfl
    rw [e]
    exact ih k (i + 1) (by omega) (by omega)
theorem movedOn_l0 {m : Int} (hm : 0 ≤ m) (h7 : m ≤ 7) {l : List Pt} (h0 : 0 < l.length) (hn : l.length ≤ 1000) (d : Nat) : ∀ (k i : Nat), i + d = l.length → 4000 + d < k → impl_movedOn.l0 k m (mvL m (l.take i)) l (l.length : Int) (i : Int) = some (cornerL (mvL m l)) := by
  have hv := mvL_length m l
  induction d with
  | zero =>
    intro k i hi hk
    obtain ⟨k, rfl⟩ : ∃ m, k = m + 1 := ⟨k - 1, by omega⟩
    have c1 : ((i : Int) < (l.length : Int)) = False := by rw [eq_iff_iff, iff_false]; omega
    simp only [impl_movedOn.l0, c1, if_false]
    rw [List.take_of_length_le (by omega)]
    unfold impl_box.f
    rw [if_pos (by omega)]
    obtain ⟨c', e', hb⟩ := boxlow_l0 (rd_T38 (mvL m l) 0).f0 (rd_T38 (mvL m l) 0).f1 (l := mvL m l) (by omega) (mvL m l).length k 0 (rd_T38 (mvL m l) 0).f0 (rd_T38 (mvL m l) 0).f1 (by omega) (by omega)
    have hb' : impl_box.l0 k (mvL m l) ((mvL m l).length : Int) 0 (rd_T38 (mvL m l) 0).f0 (rd_T38 (mvL m l) 0).f1 (rd_T38 (mvL m l) 0).f0 (rd_T38 (mvL m l) 0).f1 = _ := hb
    rw [hb', Option.bind_some]
    exact movedOn_l1 _ _ (l := mvL m l) (by omega) (mvL m l).length k 0 (by omega) (by omega)
  | succ d ih =>
    intro k i hi hk
    obtain ⟨k, rfl⟩ : ∃ m, k = m + 1 := ⟨k - 1, by omega⟩
    have wi : wrap64 ((i : Int) + 1) = ((i + 1 : Nat) : Int) := by rw [wrap64_id (by omega) (by omega)]; rfl
    have hi' : i < l.length := by omega
    have c1 : ((i : Int) < (l.length : Int)) = True := by rw [eq_iff_iff, iff_true]; omega
    have c2 : ((0 : Int) ≤ (i : Int)) = True := by rw [eq_iff_iff, iff_true]; omega
    have hl : (mvL m (l.take i)).length = i := by rw [mvL_length]; simp; omega
    have c3 : ((mvL m (l.take i)).length < 8796093022208) = True := by rw [eq_iff_iff, iff_true]; omega
    simp only [impl_movedOn.l0, c1, c2, c3, if_true, wi, rd_at l i hi', impl_moved_eq hm h7 _ _ k (show 10 < k by omega), Option.bind_some]
    have e : mvL m (l.take i) ++ [⟨(apM m l[i].f0 l[i].f1).1, (apM m l[i].f0 l[i].f1).2⟩] = mvL m (l.take (i + 1)) := by
      unfold mvL; rw [List.take_succ_eq_append_getElem hi', List.map_append]; rfl
    rw [e]
    exact ih k (i + 1) (by omega) (by omega)
theorem impl_movedOn_eq {m : Int} (hm : 0 ≤ m) (h7 : m ≤ 7) {l : List Pt} (h0 : 0 < l.length) (hn : l.length ≤ 1000) (k : Nat) (hk : 6000 < k) : impl_movedOn.f k l m = some (cornerL (mvL m l)) := by
  unfold impl_movedOn.f
  exact movedOn_l0 hm h7 h0 hn l.length k 0 (by omega) (by omega)
end Go.Proofs.Ytlfifpkigapabaa.G
