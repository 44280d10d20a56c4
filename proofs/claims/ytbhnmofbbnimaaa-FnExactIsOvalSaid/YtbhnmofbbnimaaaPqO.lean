/- IsOval: both ask that each side has one against it. The bounds stand in each theorem. -/
import Derived.Test.YtbhnmofbbnimaaaPhC
import Derived.Test.YtbhnmofbbnimaaaPhS
import Derived.Test.YtbhnmofbbnimaaaPbn
import Derived.Test.YtbhnmofbbnimaaaF28
import Derived.Test.YtbhnmofbbnimaaaF29
namespace Go.Proofs.Ytbhnmofbbnimaaa.G
open Go.RowKit Go.Proofs.YtbhnmofbbnimaaaW.PrintWords Go.Proofs.YtbhnmofbbnimaaaW.PrintLast Go.Proofs.YtbhnmofbbnimaaaW.PrintMore
set_option linter.unusedSimpArgs false
set_option linter.unusedVariables false
/-- A side as a point. -/
def sd (s : List Pt) (i : Nat) : Pt := ⟨wrap64 ((pt s (i + 1)).f0 - (pt s i).f0), wrap64 ((pt s (i + 1)).f1 - (pt s i).f1)⟩
def sdL (s : List Pt) : Nat → List Pt
  | 0 => []
  | i + 1 => sdL s i ++ [sd s i]
theorem sdL_len (s : List Pt) : ∀ i, (sdL s i).length = i
  | 0 => rfl
  | i + 1 => by simp [sdL, sdL_len s i]
def rw2 (p : Pt) : List Int := [p.f0, p.f1]
def ng2 (p : Pt) : Pt := ⟨wrap64 (-p.f0), wrap64 (-p.f1)⟩
theorem sides_l0 {s : List Pt} (hn : s.length ≤ 1000) (d : Nat) : ∀ (k i : Nat), i + d = s.length → d < k → spec_l04Sides.l0 k s ((sdL s i).map rw2) s (s.length : Int) (i : Int) = some ((sdL s s.length).map rw2) := by
  induction d with
  | zero =>
    intro k i h hk
    obtain ⟨k, rfl⟩ : ∃ m, k = m + 1 := ⟨k - 1, by omega⟩
    obtain rfl : i = s.length := by omega
    simp only [spec_l04Sides.l0]; rw [if_neg (by omega)]
  | succ d ih =>
    intro k i h hk
    obtain ⟨k, rfl⟩ : ∃ m, k = m + 1 := ⟨k - 1, by omega⟩
    have wi : wrap64 ((i : Int) + 1) = ((i + 1 : Nat) : Int) := by rw [wrap64_id (by omega) (by omega)]; rfl
    have li := Nat.mod_lt (i + 1) (show 0 < s.length by omega)
    have hl : ((sdL s i).map rw2).length < 5864062014805 := by rw [List.length_map, sdL_len]; omega
    simp only [spec_l04Sides.l0]
    rw [wi, tmod_at, rd_mod s (i + 1) (by omega), rd_pt s i (by omega), if_pos (by omega), if_pos (by omega), if_pos (by omega), if_neg (by omega), if_pos (by omega), if_pos (by omega), if_pos hl]
    rw [← ih k (i + 1) (by omega) (by omega)]
    simp [sdL, sd, rw2]
theorem oval_l0 {s : List Pt} (hn : s.length ≤ 1000) (d : Nat) : ∀ (k i : Nat), i + d = s.length → impl_IsOval.l0 (k + d + 1) s (sdL s i) s (s.length : Int) (i : Int) = impl_IsOval.l1 k (sdL s s.length) (sdL s s.length) ((sdL s s.length).length : Int) 0 := by
  induction d with
  | zero =>
    intro k i h
    obtain rfl : i = s.length := by omega
    simp only [impl_IsOval.l0]; rw [if_neg (by omega)]
  | succ d ih =>
    intro k i h
    obtain ⟨K, hK⟩ : ∃ K, K = k + d + 1 := ⟨_, rfl⟩
    rw [show k + (d + 1) + 1 = K + 1 by omega]
    have wi : wrap64 ((i : Int) + 1) = ((i + 1 : Nat) : Int) := by rw [wrap64_id (by omega) (by omega)]; rfl
    have li := Nat.mod_lt (i + 1) (show 0 < s.length by omega)
    have hl : (sdL s i).length < 8796093022208 := by rw [sdL_len]; omega
    simp only [impl_IsOval.l0]
    rw [wi, tmod_at, rd_mod s (i + 1) (by omega), rd_pt s i (by omega), if_pos (by omega), if_pos (by omega), if_pos (by omega), if_neg (by omega), if_pos (by omega), if_pos (by omega), if_pos hl, hK]
    rw [← ih k (i + 1) (by omega)]
    rfl
theorem index_l0 (l : List Pt) (hn : l.length ≤ 1000) (x : Pt) (d : Nat) : ∀ (k i : Nat), i + d = l.length → d < k → ∃ r : Int, impl_Point_99.l0 k l (l.length : Int) (i : Int) x.f0 x.f1 = some r ∧ (r ≥ 0 ↔ x ∈ l.drop i) := by
  induction d with
  | zero =>
    intro k i h hk
    obtain ⟨k, rfl⟩ : ∃ m, k = m + 1 := ⟨k - 1, by omega⟩
    refine ⟨-1, ?_, ?_⟩
    · simp only [impl_Point_99.l0]; rw [if_neg (by omega)]
    · rw [List.drop_of_length_le (by omega)]; simp
  | succ d ih =>
    intro k i h hk
    obtain ⟨k, rfl⟩ : ∃ m, k = m + 1 := ⟨k - 1, by omega⟩
    have hi : i < l.length := by omega
    simp only [impl_Point_99.l0]
    rw [if_pos (by omega), if_pos (by omega), if_pos (by omega), rd_at l i hi, pt_beq x l[i], wrap64_id (by omega) (by omega), List.drop_eq_getElem_cons hi]
    by_cases e : x = l[i]
    · rw [if_pos (by simpa using e)]
      exact ⟨_, rfl, ⟨fun _ => List.mem_cons.2 (Or.inl e), fun _ => by omega⟩⟩
    · rw [if_neg (by simpa using e)]
      obtain ⟨r, h1, h2⟩ := ih k (i + 1) (by omega) (by omega)
      push_cast at h1
      exact ⟨r, h1, by rw [h2, List.mem_cons]; exact ⟨Or.inr, fun h => h.resolve_left e⟩⟩
theorem contains_eq (l : List Pt) (hn : l.length ≤ 1000) (p : Pt) (k : Nat) (hk : l.length < k) : impl_Point_71.f k l (wrap64 (-p.f0)) (wrap64 (-p.f1)) = some (decide (ng2 p ∈ l)) := by
  obtain ⟨r, h1, h2⟩ := index_l0 l hn (ng2 p) l.length k 0 (by omega) hk
  unfold impl_Point_71.f impl_Point_99.f
  rw [show (0 : Int) = ((0 : Nat) : Int) from rfl]
  have h1' : impl_Point_99.l0 k l (l.length : Int) ((0 : Nat) : Int) (wrap64 (-p.f0)) (wrap64 (-p.f1)) = some r := h1
  rw [h1', Option.bind_some]
  rw [List.drop_zero] at h2
  congr 1
  rw [decide_eq_decide]; exact h2
theorem oval_l1 (l : List Pt) (hn : l.length ≤ 1000) (d : Nat) : ∀ (k i : Nat), i + d = l.length → 2000 + d < k → impl_IsOval.l1 k l l (l.length : Int) (i : Int) = some ((l.drop i).all fun p => decide (ng2 p ∈ l)) := by
  induction d with
  | zero =>
    intro k i h hk
    obtain ⟨k, rfl⟩ : ∃ m, k = m + 1 := ⟨k - 1, by omega⟩
    simp only [impl_IsOval.l1]; rw [if_neg (by omega), List.drop_of_length_le (by omega)]; rfl
  | succ d ih =>
    intro k i h hk
    obtain ⟨k, rfl⟩ : ∃ m, k = m + 1 := ⟨k - 1, by omega⟩
    have hi : i < l.length := by omega
    simp only [impl_IsOval.l1]
    rw [if_pos (by omega), if_pos (by omega), if_pos (by omega), rd_at l i hi, contains_eq l hn l[i] k (by omega), Option.bind_some, wrap64_id (x := (i : Int) + 1) (by omega) (by omega), List.drop_eq_getElem_cons hi, List.all_cons]
    have := ih k (i + 1) (by omega) (by omega)
    push_cast at this
    by_cases c : ng2 l[i] ∈ l
    · rw [if_pos (by simpa using c), this]; simp [c]
    · rw [if_neg (by simpa using c)]; simp [c]
theorem rdL (l : List Pt) (i : Nat) (h : i < l.length) : rd_L4 (l.map rw2) (i : Int) = rw2 l[i] := by
  simp [rd_L4, List.getD_eq_getElem?_getD, List.getElem?_eq_getElem h]
theorem soval_l1 (l : List Pt) (hn : l.length ≤ 1000) (p : Pt) (j : Int) (k : Nat) (d : Nat) : ∀ (i : Nat) (b : Bool), i + d = l.length →
    spec_IsOval.l1 (k + d + 1) (l.map rw2) (rw2 p) b (l.map rw2) (l.length : Int) j (l.map rw2) (l.length : Int) (i : Int) = if (b || (l.drop i).any fun t => decide (t = ng2 p)) = true then spec_IsOval.l0 k (l.map rw2) (l.map rw2) (l.length : Int) (wrap64 (j + 1)) else some false := by
  induction d with
  | zero =>
    intro i b h
    simp only [spec_IsOval.l1]; rw [if_neg (by omega), List.drop_of_length_le (by omega)]; simp
  | succ d ih =>
    intro i b h
    have hi : i < l.length := by omega
    obtain ⟨K, hK⟩ : ∃ K, K = k + d + 1 := ⟨_, rfl⟩
    rw [show k + (d + 1) + 1 = K + 1 by omega]
    simp only [spec_IsOval.l1]
    have hm : (i : Int) < ((l.map rw2).length : Int) := by rw [List.length_map]; omega
    have r0 : ∀ q : Pt, rd (rw2 q) 0 = q.f0 := fun q => rfl
    have r1 : ∀ q : Pt, rd (rw2 q) 1 = q.f1 := fun q => rfl
    have rl : ∀ q : Pt, (rw2 q).length = 2 := fun q => rfl
    rw [if_pos (by omega), if_pos (by omega), if_pos hm, rdL l i hi, wrap64_id (x := (i : Int) + 1) (by omega) (by omega), List.drop_eq_getElem_cons hi, List.any_cons]
    simp only [r0, r1, rl]
    have it := ih (i + 1) true (by omega)
    have ifl := ih (i + 1) false (by omega)
    have ie := ih (i + 1) (l[i].f1 == wrap64 (-p.f1)) (by omega)
    push_cast at it ifl ie
    rw [hK]
    cases b
    · rw [if_neg (by simp), if_pos (by omega), if_pos (by omega)]
      by_cases c0 : l[i].f0 = wrap64 (-p.f0)
      · rw [if_pos c0, if_pos (by omega), if_pos (by omega), ie]
        by_cases c1 : l[i].f1 = wrap64 (-p.f1)
        · have : l[i] = ng2 p := pt_ext c0 c1
          have q : (ng2 p).f1 = wrap64 (-p.f1) := rfl
          simp [c1, this, q]
        · have : ¬ l[i] = ng2 p := fun e => c1 (by rw [e]; rfl)
          simp [c1, this]
      · have : ¬ l[i] = ng2 p := fun e => c0 (by rw [e]; rfl)
        rw [if_neg c0, ifl]; simp [this]
    · rw [if_pos rfl, it]; simp
theorem soval_l0 (l : List Pt) (hn : l.length ≤ 100) (d : Nat) : ∀ (k i : Nat), i + d = l.length → d * 200 < k → spec_IsOval.l0 k (l.map rw2) (l.map rw2) (l.length : Int) (i : Int) = some ((l.drop i).all fun p => decide (ng2 p ∈ l)) := by
  induction d with
  | zero =>
    intro k i h hk
    obtain ⟨k, rfl⟩ : ∃ m, k = m + 1 := ⟨k - 1, by omega⟩
    simp only [spec_IsOval.l0]; rw [if_neg (by omega), List.drop_of_length_le (by omega)]; rfl
  | succ d ih =>
    intro k i h hk
    obtain ⟨k, rfl⟩ : ∃ m, k = m + 1 := ⟨k - 1, by omega⟩
    have hi : i < l.length := by omega
    have hm : (i : Int) < ((l.map rw2).length : Int) := by rw [List.length_map]; omega
    obtain ⟨k0, rfl⟩ : ∃ m, k = m + l.length + 1 := ⟨k - l.length - 1, by omega⟩
    obtain ⟨K, hK⟩ : ∃ K, K = k0 + l.length + 1 := ⟨_, rfl⟩
    rw [← hK]
    simp only [spec_IsOval.l0]
    rw [if_pos (by omega), if_pos (by omega), if_pos hm, rdL l i hi, List.length_map, hK]
    have s1 := soval_l1 l (by omega) l[i] (i : Int) k0 l.length 0 false (by omega)
    rw [show ((0 : Nat) : Int) = 0 from rfl] at s1
    rw [s1, wrap64_id (by omega) (by omega), List.drop_eq_getElem_cons hi, List.all_cons]
    have := ih k0 (i + 1) (by omega) (by omega)
    push_cast at this
    have e : (false || (l.drop 0).any fun t => decide (t = ng2 l[i])) = decide (ng2 l[i] ∈ l) := by
      rw [Bool.eq_iff_iff]; simp
    rw [e, this]
    by_cases c : ng2 l[i] ∈ l
    · rw [if_pos (by simpa using c)]; simp [c]
    · rw [if_neg (by simpa using c)]; simp [c]
theorem both_IsOval (l : List Pt) (hl : l.length ≤ 1048576) (k : Nat) (hk : 1048576 < k) : ∃ r, spec_IsOval.f k l = some r ∧ impl_IsOval.f k l = some r := by
  obtain ⟨r, e1, e2⟩ := both_IsConvex l hl k hk
  unfold spec_IsOval.f impl_IsOval.f
  rw [e1, e2]
  simp only [Option.bind_some]
  by_cases hr : r = true
  · rw [if_pos hr, if_pos hr]
    have hp : Poly l := by
      subst hr
      unfold impl_IsConvex.f at e2
      rw [impl_PolygonOk_some] at e2
      simp only [Option.bind_some] at e2
      by_cases h : impl_PolygonOk.ok l = true
      · exact (impl_ok_iff _).1 h
      · rw [if_neg h] at e2; cases e2
    have h10 := hp.n10
    rw [spec_straight_eq hp k (by omega), impl_straight_eq hp k (by omega)]
    simp only [Option.bind_some]
    have hb := bent_len l l.length
    generalize bent l l.length = s at hb ⊢
    have g1 : spec_l04Sides.f k s = some ((sdL s s.length).map rw2) := by
      unfold spec_l04Sides.f
      have := sides_l0 (s := s) (by omega) s.length k 0 (by omega) (by omega)
      simpa [sdL] using this
    rw [g1, Option.bind_some, List.length_map]
    have g2 := soval_l0 (sdL s s.length) (by rw [sdL_len]; omega) s.length k 0 (by rw [sdL_len]; omega) (by omega)
    have g3 : impl_IsOval.l0 k s [] s (s.length : Int) 0 = impl_IsOval.l1 (k - s.length - 1) (sdL s s.length) (sdL s s.length) ((sdL s s.length).length : Int) 0 := by
      have := oval_l0 (s := s) (by omega) s.length (k - s.length - 1) 0 (by omega)
      rw [show k - s.length - 1 + s.length + 1 = k by omega] at this
      simpa [sdL] using this
    have g4 := oval_l1 (sdL s s.length) (by rw [sdL_len]; omega) s.length (k - s.length - 1) 0 (by rw [sdL_len]; omega) (by omega)
    rw [show ((0 : Nat) : Int) = 0 from rfl] at g2 g4
    rw [g2, g3, g4]
    exact ⟨_, rfl, rfl⟩
  · rw [if_neg hr, if_neg hr]; exact ⟨_, rfl, rfl⟩
end Go.Proofs.Ytbhnmofbbnimaaa.G
