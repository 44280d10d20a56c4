/- The law FnExactShapeOf: both functions answer alike. No conditions. -/
import Derived.Test.YtlfifpkigapabaaUFnExactShapeOf
import Derived.Test.YtlfifpkigapabaaPqZs
import Derived.Test.YtlfifpkigapabaaPg
import Derived.Test.YtlfifpkigapabaaPgh
import Derived.Test.YtlfifpkigapabaaFA
namespace Go.Proofs.Ytlfifpkigapabaa.Pure
open Go.RowKit Go.Proofs.Ytlfifpkigapabaa.G Go.Proofs.YtlfifpkigapabaaW.PrintWords Go.Proofs.YtlfifpkigapabaaW.PrintLast Go.Proofs.YtlfifpkigapabaaW.PrintMore
set_option linter.unusedSimpArgs false
set_option linter.unusedVariables false
theorem FnExactShapeOf : laws_FnExactShapeOf.Pure := by
  intro l  hl _ 
  refine ⟨1100000, ?_⟩
  unfold laws_FnExactShapeOf.f
  by_cases h : l.length ≤ 1048576
  · have hm : (l.map cv).length = l.length := by simp
    rw [sz_small l h, Option.bind_some, if_neg (by omega)]
    have tp : ∀ k, 1048576 < k → laws_toPointS.f k l = some (l.map cv) := fun k hk => toPointS_eq l h k (by omega)
    obtain ⟨r, hr, hk⟩ := all_ShapeOf (l.map cv) (by omega) 
    have er : ∀ k, 1048576 < k → laws_eqPointS.f k r r = some true := fun k hk => by rw [eqPointS_eq _ _ (by omega) _ (by omega)]; simp
    have el : ∀ k, 1048576 < k → laws_eqPointS.f k (l.map cv) (l.map cv) = some true := fun k hk => by rw [eqPointS_eq _ _ (by omega) _ (by omega)]; simp
    have ml : ∀ k, 1048576 < k → laws_markPointS.f k (l.map cv) 1 = some (1 + 2 * ((l.map cv).length : Int), marks 1 (l.map cv).length) := fun k hk => markPointS_eq _ (by omega) 1 (by omega) (by omega) k (by omega)
    have mr : ∀ k, 1048576 < k → laws_markPointS.f k r 1 = some (1 + 2 * ((r).length : Int), marks 1 (r).length) := fun k hk => markPointS_eq _ (by omega) 1 (by omega) (by omega) k (by omega)
    have hd : ∀ k, 1048576 < k → laws_heldPointS.f k (marks 1 (r).length) 1 = some (1 + 2 * ((r).length : Int)) := fun k hk => heldPointS_eq _ (by omega) 1 (by omega) (by omega) k (by omega)
    have nl : (1 + 2 * ((l.map cv).length : Int) < 0) = False := by rw [eq_iff_iff, iff_false]; omega
    have nr : (1 + 2 * ((r).length : Int) < 0) = False := by rw [eq_iff_iff, iff_false]; omega
    simp only [tp 1100000 (by omega), er 1100000 (by omega), el 1100000 (by omega), ml 1100000 (by omega), mr 1100000 (by omega), hd 1100000 (by omega), (hk 1100000 (by omega)).1, (hk 1100000 (by omega)).2, Option.bind_some, if_true, bne_self_eq_false, nl, if_false, Bool.not_true]
    rw [laws_FnExactShapeOf.j0, if_neg (by simp)]
    simp only [tp 1099999 (by omega), er 1099999 (by omega), el 1099999 (by omega), ml 1099999 (by omega), mr 1099999 (by omega), hd 1099999 (by omega), (hk 1099999 (by omega)).1, (hk 1099999 (by omega)).2, Option.bind_some, if_true, bne_self_eq_false, nl, nr, if_false, Bool.not_true]
  · rw [sz_large l hl h, Option.bind_some, if_pos (by omega)]
end Go.Proofs.Ytlfifpkigapabaa.Pure
