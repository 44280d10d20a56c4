/- TurnPolygon: both hand back the corners turned round. The bounds stand in each theorem. -/
import Derived.Test.YtbhnmofbbnimaaaPrt
import Derived.Test.YtbhnmofbbnimaaaPA
import Derived.Test.YtbhnmofbbnimaaaF22
import Derived.Test.YtbhnmofbbnimaaaF23
namespace Go.Proofs.Ytbhnmofbbnimaaa.G
open Go.RowKit Go.Proofs.YtbhnmofbbnimaaaW.PrintWords Go.Proofs.YtbhnmofbbnimaaaW.PrintLast Go.Proofs.YtbhnmofbbnimaaaW.PrintMore
set_option linter.unusedSimpArgs false
set_option linter.unusedVariables false
theorem spec_turn_l0 {l : List Pt} (hn : l.length ≤ 1000) (d : Nat) : ∀ (k : Nat), d + 1 ≤ l.length → d < k →
    spec_l03Turn.l0 k l (l.take 1 ++ (l.drop (d + 1)).reverse) (d : Int) = some (turnL l) := by
  induction d with
  | zero =>
    intro k h hk
    obtain ⟨k, rfl⟩ : ∃ m, k = m + 1 := ⟨k - 1, by omega⟩
    simp only [spec_l03Turn.l0]
    rw [if_neg (by omega)]
    rfl
  | succ d ih =>
    intro k h hk
    obtain ⟨k, rfl⟩ : ∃ m, k = m + 1 := ⟨k - 1, by omega⟩
    have hi : d + 1 < l.length := by omega
    have w : wrap64 (((d + 1 : Nat) : Int) - 1) = (d : Int) := by rw [wrap64_id (by omega) (by omega)]; omega
    simp only [spec_l03Turn.l0]
    rw [if_pos (by omega), if_pos (by omega), if_pos (by omega), if_pos (by simp; omega), w, rd_at l (d + 1) hi]
    have e : (l.take 1 ++ (l.drop (d + 1 + 1)).reverse) ++ [(⟨(l[d + 1]).f0, (l[d + 1]).f1⟩ : Pt)] = l.take 1 ++ (l.drop (d + 1)).reverse := by
      rw [List.drop_eq_getElem_cons hi, List.reverse_cons, List.append_assoc]
    rw [e]
    exact ih k (by omega) (by omega)
theorem spec_turn_eq {l : List Pt} (hn : l.length ≤ 1000) (h0 : 0 < l.length) (k : Nat) (hk : 1000 < k) : spec_l03Turn.f k l = some (turnL l) := by
  unfold spec_l03Turn.f
  have g0 : rd_T44 l 0 = l[0] := rd_at l 0 h0
  have w : wrap64 ((l.length : Int) - 1) = ((l.length - 1 : Nat) : Int) := by rw [wrap64_id (by omega) (by omega)]; omega
  rw [if_pos (by omega), g0, w]
  have := spec_turn_l0 hn (l.length - 1) k (by omega) (by omega)
  rw [show l.length - 1 + 1 = l.length by omega, List.drop_length, List.reverse_nil, List.append_nil] at this
  have e : l.take 1 = [l[0]] := by
    match l, h0 with
    | a :: r, _ => rfl
  rw [e] at this
  exact this
theorem impl_turn_eq {l : List Pt} (hn : l.length ≤ 1000) (h0 : 0 < l.length) : impl_turned.f l = some (turnL l) := by
  unfold impl_turned.f
  rw [if_pos h0, if_pos (by omega)]; rfl
theorem all_TurnPolygon (l : List Pt) (hl : l.length ≤ 1048576) : ∃ r : List Pt, r.length ≤ 2000 ∧ ∀ k, 10000 < k → spec_TurnPolygon.f k l = some r ∧ impl_TurnPolygon.f l = some r := by
  by_cases hp : impl_PolygonOk.ok l = true
  · have hq := (impl_ok_iff _).1 hp
    have h3 := hq.n3
    have h10 := hq.n10
    refine ⟨turnL l, by rw [turnL_length]; omega, fun k hk => ⟨?_, ?_⟩⟩
    · unfold spec_TurnPolygon.f
      rw [spec_PolygonOk_eq _ (by omega) _ (by omega), Option.bind_some, if_pos hp, spec_turn_eq (by omega) (by omega) k (by omega)]; rfl
    · unfold impl_TurnPolygon.f
      rw [impl_PolygonOk_some, Option.bind_some, if_pos hp, impl_turn_eq (by omega) (by omega)]; rfl
  · refine ⟨[], by simp, fun k hk => ⟨?_, ?_⟩⟩
    · unfold spec_TurnPolygon.f
      rw [spec_PolygonOk_eq _ (by omega) _ (by omega), Option.bind_some, if_neg hp]
    · unfold impl_TurnPolygon.f
      rw [impl_PolygonOk_some, Option.bind_some, if_neg hp]
end Go.Proofs.Ytbhnmofbbnimaaa.G
