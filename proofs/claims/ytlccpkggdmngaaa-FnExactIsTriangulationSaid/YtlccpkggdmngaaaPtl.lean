/- The laws' functions over lists of lists of numbers, of any numbers: copies, sizes, sameness. The bounds stand in each theorem. -/
import Derived.Test.YtlccpkggdmngaaaFA
import Derived.Test.YtlccpkggdmngaaaF42
import Derived.Test.YtlccpkggdmngaaaF40
import Derived.Test.YtlccpkggdmngaaaF38
namespace Go.Proofs.Ytlccpkggdmngaaa.G
open Go.RowKit Go.Proofs.YtlccpkggdmngaaaW.PrintWords Go.Proofs.YtlccpkggdmngaaaW.PrintLast Go.Proofs.YtlccpkggdmngaaaW.PrintMore
set_option linter.unusedSimpArgs false
set_option linter.unusedVariables false
theorem rdB_at (l : List (List Int)) (i : Nat) (h : i < l.length) : rd_L5 l (i : Int) = l[i] := by
  simp only [rd_L5, Int.toNat_natCast, List.getD_eq_getElem?_getD, List.getElem?_eq_getElem h, Option.getD_some]
theorem rdJ_at (l : List Int) (i : Nat) (h : i < l.length) : rd l (i : Int) = l[i] := by
  simp [rd, List.getD_eq_getElem?_getD, List.getElem?_eq_getElem h]
/-- As many rows, and as long, as a law takes. -/
def bigR (l : List (List Int)) : Prop := l.length ≤ 1048576 ∧ ∀ x ∈ l, x.length ≤ 1048576
theorem toI_l0 (l : List Int) (hl : l.length ≤ 1048576) (d : Nat) : ∀ (k i : Nat), i + d = l.length → d < k → laws_toIntS.l0 k l (l.take i ++ List.replicate d 0) (i : Int) = some l := by
  induction d with
  | zero =>
    intro k i h hk
    obtain ⟨k, rfl⟩ : ∃ m, k = m + 1 := ⟨k - 1, by omega⟩
    simp only [laws_toIntS.l0]
    rw [if_neg (by omega), List.take_of_length_le (by omega)]; simp
  | succ d ih =>
    intro k i h hk
    obtain ⟨k, rfl⟩ : ∃ m, k = m + 1 := ⟨k - 1, by omega⟩
    have hi : i < l.length := by omega
    have hlen : (l.take i ++ List.replicate (d + 1) (0 : Int)).length = l.length := by simp; omega
    simp only [laws_toIntS.l0]
    rw [if_pos (by omega), if_pos (by omega), hlen, if_pos (by omega), rdJ_at l i hi, wrap64_id (by omega) (by omega), Int.toNat_natCast]
    have e : (l.take i ++ List.replicate (d + 1) 0).set i l[i] = l.take (i + 1) ++ List.replicate d 0 := by
      rw [List.set_append_right _ _ (by simp; omega)]
      have hz : i - (l.take i).length = 0 := by simp; omega
      rw [hz, List.replicate_succ, List.set_cons_zero, List.take_succ_eq_append_getElem hi, List.append_assoc]
      rfl
    rw [e]
    exact ih k (i + 1) (by omega) (by omega)
theorem toIntS_eq (l : List Int) (hl : l.length ≤ 1048576) (k : Nat) (hk : l.length < k) : laws_toIntS.f k l = some l := by
  unfold laws_toIntS.f
  rw [if_pos (by omega), if_pos (by omega), Int.toNat_natCast]
  have := toI_l0 l hl l.length k 0 (by omega) hk
  simpa using this
theorem toII_l0 (l : List (List Int)) (hl : bigR l) (d : Nat) : ∀ (k i : Nat), i + d = l.length → d + 1048577 < k → laws_toIntSS.l0 k l (l.take i ++ List.replicate d []) (i : Int) = some l := by
  have h1 := hl.1
  induction d with
  | zero =>
    intro k i h hk
    obtain ⟨k, rfl⟩ : ∃ m, k = m + 1 := ⟨k - 1, by omega⟩
    simp only [laws_toIntSS.l0]
    rw [if_neg (by omega), List.take_of_length_le (by omega)]; simp
  | succ d ih =>
    intro k i h hk
    obtain ⟨k, rfl⟩ : ∃ m, k = m + 1 := ⟨k - 1, by omega⟩
    have hi : i < l.length := by omega
    have hlen : (l.take i ++ List.replicate (d + 1) ([] : List Int)).length = l.length := by simp; omega
    have h2 := hl.2 l[i] (List.getElem_mem hi)
    simp only [laws_toIntSS.l0]
    rw [if_pos (by omega), if_pos (by omega), rdB_at l i hi, toIntS_eq _ h2 k (by omega), Option.bind_some, hlen, if_pos (by omega), wrap64_id (by omega) (by omega), Int.toNat_natCast]
    have e : (l.take i ++ List.replicate (d + 1) []).set i l[i] = l.take (i + 1) ++ List.replicate d [] := by
      rw [List.set_append_right _ _ (by simp; omega)]
      have hz : i - (l.take i).length = 0 := by simp; omega
      rw [hz, List.replicate_succ, List.set_cons_zero, List.take_succ_eq_append_getElem hi, List.append_assoc]
      rfl
    rw [e]
    exact ih k (i + 1) (by omega) (by omega)
theorem toIntSS_eq (l : List (List Int)) (hl : bigR l) (k : Nat) (hk : 2097153 < k) : laws_toIntSS.f k l = some l := by
  have h1 := hl.1
  unfold laws_toIntSS.f
  rw [if_pos (by omega), if_pos (by omega), Int.toNat_natCast]
  have := toII_l0 l hl l.length k 0 (by omega) (by omega)
  simpa using this
theorem eqI_l0 (l : List Int) (hl : l.length ≤ 1048576) (d : Nat) : ∀ (k i : Nat), i + d = l.length → d < k → laws_eqIntS.l0 k l l (i : Int) = some true := by
  induction d with
  | zero =>
    intro k i h hk
    obtain ⟨k, rfl⟩ : ∃ m, k = m + 1 := ⟨k - 1, by omega⟩
    simp only [laws_eqIntS.l0]
    rw [if_neg (by omega)]
  | succ d ih =>
    intro k i h hk
    obtain ⟨k, rfl⟩ : ∃ m, k = m + 1 := ⟨k - 1, by omega⟩
    have hi : i < l.length := by omega
    simp only [laws_eqIntS.l0]
    rw [if_pos (by omega), if_pos (by omega), if_pos (by omega), if_pos trivial, wrap64_id (x := (i : Int) + 1) (by omega) (by omega)]
    exact ih k (i + 1) (by omega) (by omega)
theorem eqIntS_self (l : List Int) (hl : l.length ≤ 1048576) (k : Nat) (hk : l.length < k) : laws_eqIntS.f k l l = some true := by
  unfold laws_eqIntS.f
  rw [if_pos rfl]
  exact eqI_l0 l hl l.length k 0 (by omega) hk
theorem eqII_l0 (l : List (List Int)) (hl : bigR l) (d : Nat) : ∀ (k i : Nat), i + d = l.length → d + 1048577 < k → laws_eqIntSS.l0 k l l (i : Int) = some true := by
  have h1 := hl.1
  induction d with
  | zero =>
    intro k i h hk
    obtain ⟨k, rfl⟩ : ∃ m, k = m + 1 := ⟨k - 1, by omega⟩
    simp only [laws_eqIntSS.l0]
    rw [if_neg (by omega)]
  | succ d ih =>
    intro k i h hk
    obtain ⟨k, rfl⟩ : ∃ m, k = m + 1 := ⟨k - 1, by omega⟩
    have hi : i < l.length := by omega
    have h2 := hl.2 l[i] (List.getElem_mem hi)
    simp only [laws_eqIntSS.l0]
    rw [if_pos (by omega), if_pos (by omega), if_pos (by omega), rdB_at l i hi, eqIntS_self _ h2 k (by omega), Option.bind_some, if_pos rfl, wrap64_id (x := (i : Int) + 1) (by omega) (by omega)]
    exact ih k (i + 1) (by omega) (by omega)
theorem eqIntSS_self (l : List (List Int)) (hl : bigR l) (k : Nat) (hk : 2097153 < k) : laws_eqIntSS.f k l l = some true := by
  have h1 := hl.1
  unfold laws_eqIntSS.f
  rw [if_pos rfl]
  exact eqII_l0 l hl l.length k 0 (by omega) (by omega)
theorem szII_l0 (l : List (List Int)) (h1 : l.length ≤ 1048576) (h2 : ∀ x ∈ l, x.length ≤ 9223372036854775807) (d : Nat) : ∀ (i : Nat) (s : Int), i + d = l.length → 0 ≤ s → s ≤ 1048576 →
    (∀ k, d < k → laws_szIntSS.l0 k l s (i : Int) = some (-1)) ∨ ∃ v : Int, 0 ≤ v ∧ (∀ k, d < k → laws_szIntSS.l0 k l s (i : Int) = some v) ∧ ∀ j (hj : j < l.length), i ≤ j → l[j].length ≤ 1048576 := by
  induction d with
  | zero =>
    intro i s h hs hs'
    refine .inr ⟨s, hs, fun k hk => ?_, fun j hj hij => by omega⟩
    obtain ⟨k, rfl⟩ : ∃ m, k = m + 1 := ⟨k - 1, by omega⟩
    simp only [laws_szIntSS.l0]
    rw [if_neg (by omega)]
  | succ d ih =>
    intro i s h hs hs'
    have hi : i < l.length := by omega
    have h3 := h2 l[i] (List.getElem_mem hi)
    have e1 : wrap64 (s - (l[i].length : Int)) = s - (l[i].length : Int) := wrap64_id (by omega) (by omega)
    by_cases c : s - (l[i].length : Int) < 0
    · left
      intro k hk
      obtain ⟨k, rfl⟩ : ∃ m, k = m + 1 := ⟨k - 1, by omega⟩
      simp only [laws_szIntSS.l0, laws_szIntS.f]
      rw [if_pos (by omega), if_pos (by omega), rdB_at l i hi, e1, if_pos c, Option.bind_some, if_pos (by omega)]
    · have step : ∀ k, d < k → laws_szIntSS.l0 (k + 1) l s (i : Int) = laws_szIntSS.l0 k l (s - (l[i].length : Int)) ((i + 1 : Nat) : Int) := fun k hk => by
        simp only [laws_szIntSS.l0, laws_szIntS.f]
        rw [if_pos (by omega), if_pos (by omega), rdB_at l i hi, e1, if_neg c, Option.bind_some, if_neg c, wrap64_id (x := (i : Int) + 1) (by omega) (by omega)]
        rfl
      rcases ih (i + 1) (s - (l[i].length : Int)) (by omega) (by omega) (by omega) with h4 | ⟨v, hv, h4, h5⟩
      · left
        intro k hk
        obtain ⟨k, rfl⟩ : ∃ m, k = m + 1 := ⟨k - 1, by omega⟩
        rw [step k (by omega), h4 k (by omega)]
      · right
        refine ⟨v, hv, fun k hk => ?_, fun j hj hij => ?_⟩
        · obtain ⟨k, rfl⟩ : ∃ m, k = m + 1 := ⟨k - 1, by omega⟩
          rw [step k (by omega), h4 k (by omega)]
        · by_cases e : i = j
          · subst e; omega
          · exact h5 j hj (by omega)
theorem szIntSS_eq (l : List (List Int)) (hl : l.length ≤ 9223372036854775807) (h2 : ∀ x ∈ l, x.length ≤ 9223372036854775807) (s : Int) (h0 : 0 ≤ s) (hs : s ≤ 1048576) :
    (∀ k, 1048577 < k → laws_szIntSS.f k l s = some (-1)) ∨ ∃ v : Int, 0 ≤ v ∧ (∀ k, 1048577 < k → laws_szIntSS.f k l s = some v) ∧ bigR l := by
  have e1 : wrap64 (s - (l.length : Int)) = s - (l.length : Int) := wrap64_id (by omega) (by omega)
  unfold laws_szIntSS.f
  rw [e1]
  by_cases c : s - (l.length : Int) < 0
  · left
    intro k hk
    rw [if_pos c]
  · rcases szII_l0 l (by omega) h2 l.length 0 (s - (l.length : Int)) (by omega) (by omega) (by omega) with h4 | ⟨v, hv, h4, h5⟩
    · left
      intro k hk
      rw [if_neg c]; exact h4 k (by omega)
    · right
      refine ⟨v, hv, fun k hk => by rw [if_neg c]; exact h4 k (by omega), by omega, fun x hx => ?_⟩
      obtain ⟨j, hj, rfl⟩ := List.mem_iff_getElem.1 hx
      exact h5 j hj (by omega)
end Go.Proofs.Ytlccpkggdmngaaa.G
