/- The laws' functions over lists of whole numbers. The bounds stand in each theorem. -/
import Derived.Test.YtlccpkggdmngaaaFA
import Derived.Test.YtlccpkggdmngaaaF82
import Derived.Test.YtlccpkggdmngaaaF85
import Derived.Test.YtlccpkggdmngaaaF86
namespace Go.Proofs.Ytlccpkggdmngaaa.G
open Go.RowKit Go.Proofs.YtlccpkggdmngaaaW.PrintWords Go.Proofs.YtlccpkggdmngaaaW.PrintLast Go.Proofs.YtlccpkggdmngaaaW.PrintMore
set_option linter.unusedSimpArgs false
set_option linter.unusedVariables false
theorem rdI_at (l : List Int) (i : Nat) (h : i < l.length) : rd l (i : Int) = l[i] := by
  simp [rd, List.getD_eq_getElem?_getD, List.getElem?_eq_getElem h]
theorem eqIntS_l0 (a b : List Int) (hab : a.length = b.length) (hl : a.length ≤ 9223372036854775807) (d : Nat) : ∀ (k i : Nat), i + d = a.length → d < k →
    laws_eqIntS.l0 k a b (i : Int) = some (decide (a.drop i = b.drop i)) := by
  induction d with
  | zero =>
    intro k i h hk
    obtain ⟨k, rfl⟩ : ∃ m, k = m + 1 := ⟨k - 1, by omega⟩
    simp only [laws_eqIntS.l0]
    rw [if_neg (by omega), List.drop_of_length_le (by omega), List.drop_of_length_le (by omega)]; simp
  | succ d ih =>
    intro k i h hk
    obtain ⟨k, rfl⟩ : ∃ m, k = m + 1 := ⟨k - 1, by omega⟩
    have hi : i < a.length := by omega
    have hj : i < b.length := by omega
    simp only [laws_eqIntS.l0]
    rw [if_pos (by omega), if_pos (by omega), if_pos (by omega), rdI_at a i hi, rdI_at b i hj, wrap64_id (by omega) (by omega)]
    have ea := List.drop_eq_getElem_cons hi
    have eb := List.drop_eq_getElem_cons hj
    have ih' := ih k (i + 1) (by omega) (by omega)
    push_cast at ih'
    by_cases e : a[i] = b[i]
    · rw [if_pos e, ih', ea, eb, e]
      congr 1
      rw [decide_eq_decide]
      exact ⟨fun h => by rw [h], fun h => (List.cons.inj h).2⟩
    · rw [if_neg e, ea, eb]
      congr 1
      exact (decide_eq_false (fun h => e (List.cons.inj h).1)).symm
theorem eqIntS_eq (a b : List Int) (hl : a.length ≤ 9223372036854775807) (k : Nat) (hk : a.length < k) : laws_eqIntS.f k a b = some (decide (a = b)) := by
  unfold laws_eqIntS.f
  by_cases h : a.length = b.length
  · rw [if_pos (by omega)]
    have := eqIntS_l0 a b h hl a.length k 0 (by omega) hk
    simpa using this
  · rw [if_neg (by omega)]
    have : ¬ a = b := fun e => h (by rw [e])
    simp [this]
/-- n whole numbers from s on. -/
def marksI (s : Int) : Nat → List Int
  | 0 => []
  | n + 1 => s :: marksI (s + 1) n
theorem marksI_length (n : Nat) : ∀ s, (marksI s n).length = n := by
  induction n with
  | zero => intro s; rfl
  | succ n ih => intro s; simp [marksI, ih]
theorem marksI_snoc (n : Nat) : ∀ s, marksI s (n + 1) = marksI s n ++ [s + n] := by
  induction n with
  | zero => intro s; simp [marksI]
  | succ n ih =>
    intro s
    rw [marksI, ih (s + 1), marksI]
    have e : s + 1 + (n : Int) = s + ((n + 1 : Nat) : Int) := by push_cast; omega
    rw [e]; rfl
theorem marksI_get (n : Nat) : ∀ (s : Int) (i : Nat) (h : i < (marksI s n).length), (marksI s n)[i] = s + i := by
  induction n with
  | zero => intro s i h; simp [marksI] at h
  | succ n ih =>
    intro s i h
    match i with
    | 0 => simp [marksI]
    | i + 1 =>
      simp only [marksI, List.getElem_cons_succ]
      rw [ih (s + 1) i (by simpa [marksI] using h)]
      push_cast; omega
theorem markI_l0 (l : List Int) (hl : l.length ≤ 1048576) (s : Int) (h0 : 0 ≤ s) (h1 : s ≤ 1000000000000) (d : Nat) : ∀ (k i : Nat), i + d = l.length → d < k →
    laws_markIntS.l0 k (marksI s i ++ l.drop i) (s + i) (i : Int) = some (s + l.length, marksI s l.length) := by
  induction d with
  | zero =>
    intro k i h hk
    obtain ⟨k, rfl⟩ : ∃ m, k = m + 1 := ⟨k - 1, by omega⟩
    have e : i = l.length := by omega
    subst e
    simp only [laws_markIntS.l0]
    rw [if_neg (by simp [marksI_length])]
    simp
  | succ d ih =>
    intro k i h hk
    obtain ⟨k, rfl⟩ : ∃ m, k = m + 1 := ⟨k - 1, by omega⟩
    have hi : i < l.length := by omega
    have hlen : (marksI s i ++ l.drop i).length = l.length := by simp [marksI_length]; omega
    simp only [laws_markIntS.l0]
    rw [hlen, if_pos (by omega), if_pos (by omega), Int.toNat_natCast, wrap64_id (x := s + i + 1) (by omega) (by omega), wrap64_id (x := (i : Int) + 1) (by omega) (by omega)]
    have e1 : ∀ p : Int, (marksI s i ++ l.drop i).set i p = marksI s i ++ p :: l.drop (i + 1) := by
      intro p
      rw [List.set_append_right _ _ (by simp [marksI_length])]
      rw [marksI_length, Nat.sub_self, List.drop_eq_getElem_cons hi, List.set_cons_zero]
    rw [e1]
    have ih' := ih k (i + 1) (by omega) (by omega)
    rw [marksI_snoc, List.append_assoc] at ih'
    push_cast at ih'
    have e4 : s + ((i : Int) + 1) = s + i + 1 := by omega
    rw [e4] at ih'
    exact ih'
theorem markIntS_eq (l : List Int) (hl : l.length ≤ 1048576) (s : Int) (h0 : 0 ≤ s) (h1 : s ≤ 1000000000000) (k : Nat) (hk : l.length < k) : laws_markIntS.f k l s = some (s + l.length, marksI s l.length) := by
  have := markI_l0 l hl s h0 h1 l.length k 0 (by omega) hk
  simpa [laws_markIntS.f, marksI] using this
theorem heldI_l0 (n : Nat) (hn : n ≤ 1048576) (s : Int) (h0 : 0 ≤ s) (h1 : s ≤ 1000000000000) (d : Nat) : ∀ (k i : Nat), i + d = n → d < k →
    laws_heldIntS.l0 k (marksI s n) (s + i) (i : Int) = some (s + n) := by
  induction d with
  | zero =>
    intro k i h hk
    obtain ⟨k, rfl⟩ : ∃ m, k = m + 1 := ⟨k - 1, by omega⟩
    have e : i = n := by omega
    subst e
    simp only [laws_heldIntS.l0]
    rw [if_neg (by simp [marksI_length])]
  | succ d ih =>
    intro k i h hk
    obtain ⟨k, rfl⟩ : ∃ m, k = m + 1 := ⟨k - 1, by omega⟩
    have hi : i < (marksI s n).length := by rw [marksI_length]; omega
    simp only [laws_heldIntS.l0]
    rw [if_pos (by omega), if_pos (by omega), rdI_at _ i hi, marksI_get n s i hi, if_pos rfl, wrap64_id (x := s + i + 1) (by omega) (by omega), wrap64_id (x := (i : Int) + 1) (by omega) (by omega)]
    have ih' := ih k (i + 1) (by omega) (by omega)
    push_cast at ih'
    have e4 : s + ((i : Int) + 1) = s + i + 1 := by omega
    rw [e4] at ih'
    exact ih'
theorem heldIntS_eq (n : Nat) (hn : n ≤ 1048576) (s : Int) (h0 : 0 ≤ s) (h1 : s ≤ 1000000000000) (k : Nat) (hk : n < k) : laws_heldIntS.f k (marksI s n) s = some (s + n) := by
  have := heldI_l0 n hn s h0 h1 n k 0 (by omega) hk
  simpa [laws_heldIntS.f] using this
end Go.Proofs.Ytlccpkggdmngaaa.G
