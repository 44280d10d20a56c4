/- What the laws' own small functions over lists of points come to. The bounds on lengths stand in each theorem. -/
import Derived.Test.YtlceoghkhgihdaaPa
import Derived.Test.YtlceoghkhgihdaaF25
import Derived.Test.YtlceoghkhgihdaaF18
import Derived.Test.YtlceoghkhgihdaaF23
namespace Go.Proofs.Ytlceoghkhgihdaa.G
open Go.RowKit Go.Proofs.YtlceoghkhgihdaaW.PrintWords Go.Proofs.YtlceoghkhgihdaaW.PrintLast Go.Proofs.YtlceoghkhgihdaaW.PrintMore
set_option linter.unusedSimpArgs false
set_option linter.unusedVariables false
abbrev LPt := S23
/-- A law's point as the program's. -/
def cv (p : LPt) : Pt := ⟨p.f0, p.f1⟩
theorem rdL_at (l : List LPt) (i : Nat) (h : i < l.length) : rd_T23 l (i : Int) = l[i] := by
  simp [rd_T23, List.getD_eq_getElem?_getD, List.getElem?_eq_getElem h]
theorem toPointS_l0 (l : List LPt) (hl : l.length ≤ 1048576) (d : Nat) : ∀ (k i : Nat), i + d = l.length → d < k →
    laws_toPointS.l0 k l ((l.take i).map cv ++ List.replicate d z26) (i : Int) = some (l.map cv) := by
  induction d with
  | zero =>
    intro k i h hk
    obtain ⟨k, rfl⟩ : ∃ m, k = m + 1 := ⟨k - 1, by omega⟩
    simp only [laws_toPointS.l0]
    rw [if_neg (by omega), List.take_of_length_le (by omega)]; simp
  | succ d ih =>
    intro k i h hk
    obtain ⟨k, rfl⟩ : ∃ m, k = m + 1 := ⟨k - 1, by omega⟩
    have hi : i < l.length := by omega
    have hlen : ((l.take i).map cv ++ List.replicate (d + 1) z26).length = l.length := by simp; omega
    simp only [laws_toPointS.l0]
    rw [if_pos (by omega), if_pos (by omega), rdL_at l i hi]
    simp only [laws_toPoint.f, Option.bind_some]
    rw [hlen, if_pos (by omega), wrap64_id (by omega) (by omega), Int.toNat_natCast]
    have e : ((l.take i).map cv ++ List.replicate (d + 1) z26).set i ⟨l[i].f0, l[i].f1⟩ = (l.take (i + 1)).map cv ++ List.replicate d z26 := by
      rw [List.set_append_right _ _ (by simp; omega)]
      have hz : i - ((l.take i).map cv).length = 0 := by simp; omega
      rw [hz, List.replicate_succ, List.set_cons_zero, List.take_succ_eq_append_getElem hi, List.map_append, List.append_assoc]
      rfl
    rw [e]
    exact ih k (i + 1) (by omega) (by omega)
theorem toPointS_eq (l : List LPt) (hl : l.length ≤ 1048576) (k : Nat) (hk : l.length < k) : laws_toPointS.f k l = some (l.map cv) := by
  unfold laws_toPointS.f
  rw [if_pos (by omega), if_pos (by omega), Int.toNat_natCast]
  have := toPointS_l0 l hl l.length k 0 (by omega) hk
  simpa using this
theorem eqPointS_l0 (a b : List Pt) (hab : a.length = b.length) (hl : a.length ≤ 9223372036854775807) (d : Nat) : ∀ (k i : Nat), i + d = a.length → d < k →
    laws_eqPointS.l0 k a b (i : Int) = some (decide (a.drop i = b.drop i)) := by
  induction d with
  | zero =>
    intro k i h hk
    obtain ⟨k, rfl⟩ : ∃ m, k = m + 1 := ⟨k - 1, by omega⟩
    simp only [laws_eqPointS.l0]
    rw [if_neg (by omega), List.drop_of_length_le (by omega), List.drop_of_length_le (by omega)]; simp
  | succ d ih =>
    intro k i h hk
    obtain ⟨k, rfl⟩ : ∃ m, k = m + 1 := ⟨k - 1, by omega⟩
    have hi : i < a.length := by omega
    have hj : i < b.length := by omega
    simp only [laws_eqPointS.l0, laws_eqPoint.f]
    rw [if_pos (by omega), if_pos (by omega), if_pos (by omega), rd_at a i hi, rd_at b i hj, wrap64_id (by omega) (by omega)]
    have ea := List.drop_eq_getElem_cons hi
    have eb := List.drop_eq_getElem_cons hj
    have ih' := ih k (i + 1) (by omega) (by omega)
    push_cast at ih'
    by_cases h0 : a[i].f0 = b[i].f0
    · by_cases h1 : a[i].f1 = b[i].f1
      · have e : a[i] = b[i] := by cases ha : a[i]; cases hb : b[i]; simp_all
        rw [if_pos h0, if_pos h1, Option.bind_some, if_pos rfl, ih', ea, eb, e]
        congr 1
        rw [decide_eq_decide]
        constructor
        · intro h; rw [h]
        · intro h; exact (List.cons.inj h).2
      · have e : ¬ a[i] = b[i] := fun h => h1 (by rw [h])
        rw [if_pos h0, if_neg h1, Option.bind_some, if_neg (by simp), ea, eb]
        congr 1
        exact (decide_eq_false (fun h => e (List.cons.inj h).1)).symm
    · have e : ¬ a[i] = b[i] := fun h => h0 (by rw [h])
      rw [if_neg h0, Option.bind_some, if_neg (by simp), ea, eb]
      congr 1
      exact (decide_eq_false (fun h => e (List.cons.inj h).1)).symm
theorem eqPointS_eq (a b : List Pt) (hl : a.length ≤ 9223372036854775807) (k : Nat) (hk : a.length < k) : laws_eqPointS.f k a b = some (decide (a = b)) := by
  unfold laws_eqPointS.f
  by_cases h : a.length = b.length
  · rw [if_pos (by omega)]
    have := eqPointS_l0 a b h hl a.length k 0 (by omega) hk
    simpa using this
  · rw [if_neg (by omega)]
    have : ¬ a = b := fun e => h (by rw [e])
    simp [this]
theorem sz_small (l : List LPt) (h : l.length ≤ 1048576) : laws_szPointS.f l 1048576 = some (1048576 - (l.length : Int)) := by
  unfold laws_szPointS.f
  rw [wrap64_id (by omega) (by omega), if_neg (by omega)]
theorem sz_large (l : List LPt) (hl : l.length ≤ 9223372036854775807) (h : ¬ l.length ≤ 1048576) : laws_szPointS.f l 1048576 = some (-1) := by
  unfold laws_szPointS.f
  rw [wrap64_id (by omega) (by omega), if_pos (by omega)]
end Go.Proofs.Ytlceoghkhgihdaa.G
