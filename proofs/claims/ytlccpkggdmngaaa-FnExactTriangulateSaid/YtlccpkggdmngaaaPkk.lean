/- The laws' functions over lists of lists of numbers. The bounds stand in each theorem. -/
import Derived.Test.YtlccpkggdmngaaaPk
import Derived.Test.YtlccpkggdmngaaaF42
import Derived.Test.YtlccpkggdmngaaaF46
import Derived.Test.YtlccpkggdmngaaaF47
namespace Go.Proofs.Ytlccpkggdmngaaa.G
open Go.RowKit Go.Proofs.YtlccpkggdmngaaaW.PrintWords Go.Proofs.YtlccpkggdmngaaaW.PrintLast Go.Proofs.YtlccpkggdmngaaaW.PrintMore
set_option linter.unusedSimpArgs false
set_option linter.unusedVariables false
theorem rdR_at (l : List (List Int)) (i : Nat) (h : i < l.length) : rd_L5 l (i : Int) = l[i] := by
  simp only [rd_L5, Int.toNat_natCast, List.getD_eq_getElem?_getD, List.getElem?_eq_getElem h, Option.getD_some]
/-- Few rows, none of them long. -/
def fewR (l : List (List Int)) : Prop := l.length ≤ 1000 ∧ ∀ x ∈ l, x.length ≤ 1000
theorem eqSS_l0 {l : List (List Int)} (hf : fewR l) (d : Nat) : ∀ (k i : Nat), i + d = l.length → 1001 + d < k → laws_eqIntSS.l0 k l l (i : Int) = some true := by
  induction d with
  | zero =>
    intro k i h hk
    obtain ⟨k, rfl⟩ : ∃ m, k = m + 1 := ⟨k - 1, by omega⟩
    simp only [laws_eqIntSS.l0]
    rw [if_neg (by omega)]
  | succ d ih =>
    intro k i h hk
    obtain ⟨k, rfl⟩ : ∃ m, k = m + 1 := ⟨k - 1, by omega⟩
    have hi : i < l.length := by omega
    have h1 := hf.1
    have h2 := hf.2 l[i] (List.getElem_mem hi)
    simp only [laws_eqIntSS.l0]
    rw [if_pos (by omega), if_pos (by omega), if_pos (by omega), rdR_at l i hi, eqIntS_eq _ _ (by omega) k (by omega), Option.bind_some, if_pos (by simp), wrap64_id (x := (i : Int) + 1) (by omega) (by omega)]
    exact ih k (i + 1) (by omega) (by omega)
theorem eqSS_self {l : List (List Int)} (hf : fewR l) (k : Nat) (hk : 3000 < k) : laws_eqIntSS.f k l l = some true := by
  unfold laws_eqIntSS.f
  rw [if_pos rfl]
  exact eqSS_l0 hf l.length k 0 (by omega) (by have := hf.1; omega)
def total : List (List Int) → Nat
  | [] => 0
  | x :: l => x.length + total l
def marksSS (s : Int) : List (List Int) → List (List Int)
  | [] => []
  | x :: l => marksI s x.length :: marksSS (s + x.length) l
theorem total_le : ∀ (l : List (List Int)), (∀ x ∈ l, x.length ≤ 1000) → total l ≤ 1000 * l.length
  | [], _ => by simp [total]
  | x :: l, h => by
    have h1 := h x (by simp)
    have h2 := total_le l (fun y hy => h y (by simp [hy]))
    simp only [total, List.length_cons]; omega
theorem markSS_l0 (d : Nat) : ∀ (k : Nat) (pre l : List (List Int)) (s : Int), l.length = d → pre.length + l.length ≤ 1000 → (∀ x ∈ l, x.length ≤ 1000) → 0 ≤ s → s + total l ≤ 100000000 → 1001 + d < k →
    laws_markIntSS.l0 k (pre ++ l) s (pre.length : Int) = some (s + total l, pre ++ marksSS s l) := by
  induction d with
  | zero =>
    intro k pre l s hd hp hl h0 hs hk
    obtain ⟨k, rfl⟩ : ∃ m, k = m + 1 := ⟨k - 1, by omega⟩
    obtain rfl := List.length_eq_zero_iff.1 hd
    simp only [laws_markIntSS.l0]
    rw [if_neg (by simp)]
    simp [total, marksSS]
  | succ d ih =>
    intro k pre l s hd hp hl h0 hs hk
    obtain ⟨k, rfl⟩ : ∃ m, k = m + 1 := ⟨k - 1, by omega⟩
    cases l with
    | nil => simp at hd
    | cons x l =>
      have hx := hl x (by simp)
      simp only [total] at hs ⊢
      simp only [List.length_cons] at hd hp
      simp only [laws_markIntSS.l0]
      have hg : (pre ++ x :: l).getD (pre.length : Int).toNat [] = x := by simp
      rw [if_pos (by simp; omega), if_pos (by omega), hg, markIntS_eq x (by omega) s h0 (by omega) k (by omega), Option.bind_some]
      have hset : (pre ++ x :: l).set (pre.length : Int).toNat (marksI s x.length) = (pre ++ [marksI s x.length]) ++ l := by simp
      simp only
      rw [hset, wrap64_id (x := (pre.length : Int) + 1) (by omega) (by omega)]
      have := ih k (pre ++ [marksI s x.length]) l (s + x.length) (by omega) (by simp; omega) (fun y hy => hl y (by simp [hy])) (by omega) (by omega) (by omega)
      simp only [List.length_append, List.length_singleton] at this
      push_cast at this
      rw [this]
      simp only [marksSS]
      congr 1
      refine Prod.ext ?_ (by simp)
      push_cast; omega
theorem markSS_eq {l : List (List Int)} (hf : fewR l) (k : Nat) (hk : 3000 < k) : laws_markIntSS.f k l 1 = some (1 + (total l : Int), marksSS 1 l) := by
  have := total_le l hf.2
  have h1 := hf.1
  have := markSS_l0 l.length k [] l 1 rfl (by simpa using hf.1) hf.2 (by omega) (by omega) (by omega)
  simpa [laws_markIntSS.f] using this
theorem heldSS_l0 (d : Nat) : ∀ (k : Nat) (pre l : List (List Int)) (s : Int), l.length = d → pre.length + l.length ≤ 1000 → (∀ x ∈ l, x.length ≤ 1000) → 0 ≤ s → s + total l ≤ 100000000 → 1001 + d < k →
    laws_heldIntSS.l0 k (pre ++ marksSS s l) s (pre.length : Int) = some (s + total l) := by
  induction d with
  | zero =>
    intro k pre l s hd hp hl h0 hs hk
    obtain ⟨k, rfl⟩ : ∃ m, k = m + 1 := ⟨k - 1, by omega⟩
    obtain rfl := List.length_eq_zero_iff.1 hd
    simp only [laws_heldIntSS.l0, marksSS, List.append_nil]
    rw [if_neg (by omega)]
    simp [total]
  | succ d ih =>
    intro k pre l s hd hp hl h0 hs hk
    obtain ⟨k, rfl⟩ : ∃ m, k = m + 1 := ⟨k - 1, by omega⟩
    cases l with
    | nil => simp at hd
    | cons x l =>
      have hx := hl x (by simp)
      simp only [total, marksSS] at hs ⊢
      simp only [List.length_cons] at hd hp
      simp only [laws_heldIntSS.l0]
      have hg : rd_L5 (pre ++ marksI s x.length :: marksSS (s + x.length) l) (pre.length : Int) = marksI s x.length := by simp [rd_L5]
      rw [if_pos (by simp; omega), if_pos (by omega), hg, heldIntS_eq x.length (by omega) s h0 (by omega) k (by omega), Option.bind_some, if_neg (by omega), wrap64_id (x := (pre.length : Int) + 1) (by omega) (by omega)]
      have := ih k (pre ++ [marksI s x.length]) l (s + x.length) (by omega) (by simp; omega) (fun y hy => hl y (by simp [hy])) (by omega) (by omega) (by omega)
      simp only [List.length_append, List.length_singleton, List.append_assoc, List.singleton_append] at this
      push_cast at this
      rw [this]
      congr 1
      push_cast; omega
theorem heldSS_eq {l : List (List Int)} (hf : fewR l) (k : Nat) (hk : 3000 < k) : laws_heldIntSS.f k (marksSS 1 l) 1 = some (1 + (total l : Int)) := by
  have := total_le l hf.2
  have h1 := hf.1
  have := heldSS_l0 l.length k [] l 1 rfl (by simpa using hf.1) hf.2 (by omega) (by omega) (by omega)
  simpa [laws_heldIntSS.f] using this
end Go.Proofs.Ytlccpkggdmngaaa.G
