/- The law FnExactIsCongruent: both functions answer alike. No conditions. -/
import Derived.Test.YtlfifpkigapabaaUFnExactIsCongruent
import Derived.Test.YtlfifpkigapabaaPqZc
import Derived.Test.YtlfifpkigapabaaFA
namespace Go.Proofs.Ytlfifpkigapabaa.Pure
open Go.RowKit Go.Proofs.Ytlfifpkigapabaa.G Go.Proofs.YtlfifpkigapabaaW.PrintWords Go.Proofs.YtlfifpkigapabaaW.PrintLast Go.Proofs.YtlfifpkigapabaaW.PrintMore
set_option linter.unusedSimpArgs false
set_option linter.unusedVariables false
theorem sz_two_small (l : List LPt) (left : Int) (h : (l.length : Int) ≤ left) (hl : left ≤ 1048576) : laws_szPointS.f l left = some (left - (l.length : Int)) := by
  unfold laws_szPointS.f
  rw [wrap64_id (by omega) (by omega), if_neg (by omega)]
theorem sz_two_large (l : List LPt) (left : Int) (h : ¬ (l.length : Int) ≤ left) (h0 : 0 ≤ left) (hl : l.length ≤ 9223372036854775807) : laws_szPointS.f l left = some (-1) := by
  unfold laws_szPointS.f
  rw [wrap64_id (by omega) (by omega), if_pos (by omega)]
theorem FnExactIsCongruent : laws_FnExactIsCongruent.Pure := by
  intro l l' hl _ hl' _
  refine ⟨1100000, ?_⟩
  unfold laws_FnExactIsCongruent.f
  by_cases h : l.length ≤ 1048576
  · have hm : (l.map cv).length = l.length := by simp
    have hm' : (l'.map cv).length = l'.length := by simp
    rw [sz_small l h, Option.bind_some, if_neg (by omega)]
    by_cases h' : (l'.length : Int) ≤ 1048576 - (l.length : Int)
    · rw [sz_two_small l' _ h' (by omega), Option.bind_some, if_neg (by omega)]
      obtain ⟨r, hr⟩ := all_IsCongruent (l.map cv) (l'.map cv) (by omega) (by omega)
      simp only [toPointS_eq l h 1100000 (by omega), toPointS_eq l' (by omega) 1100000 (by omega), Option.bind_some, (hr 1100000 (by omega)).1, (hr 1100000 (by omega)).2, bne_self_eq_false]
      rw [if_neg (by simp), eqPointS_eq _ _ (by omega) _ (by omega), Option.bind_some, if_pos (by simp), eqPointS_eq _ _ (by omega) _ (by omega), Option.bind_some, if_pos (by simp)]
    · rw [sz_two_large l' _ h' (by omega) hl', Option.bind_some, if_pos (by omega)]
  · rw [sz_large l hl h, Option.bind_some, if_pos (by omega)]
end Go.Proofs.Ytlfifpkigapabaa.Pure
