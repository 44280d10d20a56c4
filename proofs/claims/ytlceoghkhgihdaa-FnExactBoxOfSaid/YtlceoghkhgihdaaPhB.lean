/- The box of a polygon: both functions answer alike. The bounds stand in each theorem. -/
import Derived.Test.YtlceoghkhgihdaaPA
import Derived.Test.YtlceoghkhgihdaaF33
import Derived.Test.YtlceoghkhgihdaaF34
namespace Go.Proofs.Ytlceoghkhgihdaa.G
open Go.RowKit Go.Proofs.YtlceoghkhgihdaaW.PrintWords Go.Proofs.YtlceoghkhgihdaaW.PrintLast Go.Proofs.YtlceoghkhgihdaaW.PrintMore
set_option linter.unusedSimpArgs false
set_option linter.unusedVariables false
theorem box_l0 {l : List Pt} (hn : l.length ≤ 1000000) (d : Nat) : ∀ (k i : Nat) (a b c e : Int), i + d = l.length → d < k →
    ∃ r, impl_box.l0 k l (l.length : Int) (i : Int) a b c e = some r ∧ spec_BoxOf.l0 k l (l.length : Int) (i : Int) a b c e = some (r.1, r.2.1, r.2.2.1, r.2.2.2, true) := by
  induction d with
  | zero =>
    intro k i a b c e hi hk
    obtain ⟨k, rfl⟩ : ∃ m, k = m + 1 := ⟨k - 1, by omega⟩
    simp only [impl_box.l0, spec_BoxOf.l0]
    rw [if_neg (by omega), if_neg (by omega)]
    exact ⟨_, rfl, rfl⟩
  | succ d ih =>
    intro k i a b c e hi hk
    obtain ⟨k, rfl⟩ : ∃ m, k = m + 1 := ⟨k - 1, by omega⟩
    have wi : wrap64 ((i : Int) + 1) = ((i + 1 : Nat) : Int) := by rw [wrap64_id (by omega) (by omega)]; rfl
    simp only [impl_box.l0, spec_BoxOf.l0]
    rw [wi, if_pos (by omega), if_pos (by omega), if_pos (by omega), if_pos (by omega), if_pos (by omega), if_pos (by omega)]
    exact ih k (i + 1) _ _ _ _ (by omega) (by omega)
theorem both_BoxOf (l : List Pt) (hl : l.length ≤ 1048576) (k : Nat) (hk : 1048576 < k) : ∃ r, spec_BoxOf.f k l = some r ∧ impl_BoxOf.f k l = some r := by
  unfold spec_BoxOf.f impl_BoxOf.f impl_box.f
  rw [spec_PolygonOk_eq _ (by omega) _ (by omega), impl_PolygonOk_some]
  simp only [Option.bind_some]
  by_cases hp : impl_PolygonOk.ok l = true
  · rw [if_pos hp, if_pos hp]
    replace hp := (impl_ok_iff _).1 hp
    have h3 := hp.n3
    have h10 := hp.n10
    rw [if_pos (by omega), if_pos (by omega)]
    obtain ⟨r, e1, e2⟩ := box_l0 (l := l) (by omega) l.length k 0 ((rd_T26 l 0).f0) ((rd_T26 l 0).f1) ((rd_T26 l 0).f0) ((rd_T26 l 0).f1) (by omega) (by omega)
    refine ⟨_, e2, ?_⟩
    have e1' : impl_box.l0 k l (l.length : Int) 0 ((rd_T26 l 0).f0) ((rd_T26 l 0).f1) ((rd_T26 l 0).f0) ((rd_T26 l 0).f1) = some r := e1
    rw [e1', Option.bind_some]
  · rw [if_neg hp, if_neg hp]; exact ⟨_, rfl, rfl⟩
end Go.Proofs.Ytlceoghkhgihdaa.G
