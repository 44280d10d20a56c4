/- The law FnPolygons: a polygon turned round, begun elsewhere and without straight corners, its box, its sides' points and Pick's theorem. No conditions. -/
import Derived.Test.YtlccpkggdmngaaaUFnPolygons
import Derived.Test.YtlccpkggdmngaaaPQM
namespace Go.Proofs.Ytlccpkggdmngaaa.Pure
open Go.RowKit Go.Proofs.Ytlccpkggdmngaaa.G Go.Proofs.YtlccpkggdmngaaaW.PrintWords Go.Proofs.YtlccpkggdmngaaaW.PrintLast Go.Proofs.YtlccpkggdmngaaaW.PrintMore
set_option linter.unusedSimpArgs false
set_option linter.unusedVariables false
theorem FnPolygons : laws_FnPolygons.Pure := by
  intro l hl _ _
  obtain ⟨K, hK⟩ : ∃ K : Nat, 100000 < K := ⟨100001, by omega⟩
  refine ⟨K + 2, ?_⟩
  unfold laws_FnPolygons.f
  by_cases h : (l.length : Int) > 1048576
  · rw [if_pos h]
  · rw [if_neg h]
    obtain ⟨p, hp, ep⟩ := makePolygon_eq l (by omega)
    have h3 := hp.n3
    have h10 := hp.n10
    obtain ⟨lx, ly, hx, hy, eb, b0, b1, b2, b3, hb⟩ := boxV hp
    obtain ⟨c1, c2, c3⟩ := bent_poly hp
    have c4 := c1.n3
    have c5 := bent_len p p.length
    have ht := poly_turn hp
    have ta := twS_bound hp.okp (show 0 < p.length by omega) p.length
    have tt := twS_turn (l := p) (by omega)
    rw [ep _ (by omega), Option.bind_some, turnV hp, Option.bind_some, strV hp _ (by omega), Option.bind_some, eb _ (by omega), Option.bind_some, if_pos (by rw [turnL_length])]
    rw [impl_PolygonOk_some, Option.bind_some, if_pos (okB ht), twiceV ht _ (by omega), Option.bind_some, twiceV hp _ (by omega), Option.bind_some, tt, wrap64_id (by omega) (by omega), if_pos rfl]
    rw [turnV ht, Option.bind_some, turnL_turnL, pointsV p (by omega) _ (by omega), Option.bind_some, if_pos rfl, if_pos rfl]
    rw [sideV hp _ (by omega), Option.bind_some, if_pos rfl, if_neg (by omega), if_neg (by omega)]
    rw [impl_SameV hp c1 (Or.inl (by rw [c3]; exact Cyc.refl _)) _ (by omega), Option.bind_some, if_pos rfl]
    rw [twiceV c1 _ (by omega), Option.bind_some, Option.bind_some, c2, if_pos rfl]
    rw [strV c1 _ (by omega), Option.bind_some, c3, pointsV _ (by omega) _ (by omega), Option.bind_some]
    obtain ⟨r, hr, er⟩ := makeSize_eq l (by omega) p.length (by omega) (by omega)
    have hq := poly_rot hp (show r ≤ p.length by omega)
    have br := bent_rot (l := p) (by omega) (show r ≤ p.length by omega)
    have bt := bent_turn (l := p) (by omega)
    have cr := bent_turn (l := rotL p r) (by rw [rotL_length]; omega)
    have aq := twS_rot p (show r ≤ p.length by omega)
    have cyc2 : Cyc (bent (turnL p) (turnL p).length) (turnL (bent (rotL p r) (rotL p r).length)) :=
      bt.trans ((cyc_turn _).symm.trans (br.reverse.trans (cyc_turn _)))
    simp only [laws_FnPolygons.j0]
    rw [if_neg (by simp), wrap64_id (by omega) (by omega), er _ (by omega), Option.bind_some, startV hp r _ hr (by omega), Option.bind_some, if_pos (by rw [rotL_length])]
    rw [impl_SameV hp hq (Or.inl br) _ (by omega), Option.bind_some, if_pos rfl, impl_SameV ht hq (Or.inr cyc2) _ (by omega), Option.bind_some, if_pos rfl]
    rw [twiceV hq _ (by omega), Option.bind_some, twiceV hp _ (by omega), Option.bind_some, aq]
    simp only [laws_FnPolygons.j1]
    rw [if_neg (by simp)]
    exact corners_l0 hp b0 b1 b2 b3 hb p.length _ 0 (by omega) (by omega)
end Go.Proofs.Ytlccpkggdmngaaa.Pure
