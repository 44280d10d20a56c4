/- The law FnExactSplitLines: both functions answer alike. No conditions. -/
import Derived.Test.YtbcndlfnmhmigaaUFnExactSplitLines
import Derived.Test.YtbcndlfnmhmigaaPqSp
import Derived.Test.YtbcndlfnmhmigaaPst
namespace Go.Proofs.Ytbcndlfnmhmigaa.Pure
open Go.RowKit Go.Proofs.Ytbcndlfnmhmigaa.G Go.Proofs.YtbcndlfnmhmigaaW.PrintWords Go.Proofs.YtbcndlfnmhmigaaW.PrintLast Go.Proofs.YtbcndlfnmhmigaaW.PrintMore
set_option linter.unusedSimpArgs false
set_option linter.unusedVariables false
theorem all_SplitLines (a : ByteArray) (ha : a.size ≤ 1048576) : ∃ r : List ByteArray, r.length ≤ 1048577 ∧ ∀ k, 2000000000000 < k → spec_SplitLines.f k a = some r ∧ impl_SplitLines.f k a = some r := by
  obtain ⟨r, hne, hr, hk⟩ := all_SplitAny2 a (⟨#[10]⟩ : ByteArray) ha (by decide)
  have hl : 0 < r.length := List.length_pos_iff.2 hne
  have e : wrap64 ((r.length : Int) - 1) = (r.length : Int) - 1 := wrap64_id (by omega) (by omega)
  by_cases c : (rdOf ByteArray.empty r ((r.length : Int) - 1)).toList = ([] : List UInt8)
  · refine ⟨r.take ((r.length : Int) - 1).toNat, by rw [List.length_take]; omega, fun k h => ?_⟩
    obtain ⟨s1, s2⟩ := hk k h
    unfold spec_SplitLines.f impl_SplitLines.f
    rw [s1, s2, Option.bind_some, e, if_pos (by omega), if_pos (by omega), if_pos c, if_pos (by omega)]
    exact ⟨rfl, rfl⟩
  · refine ⟨r, hr, fun k h => ?_⟩
    obtain ⟨s1, s2⟩ := hk k h
    unfold spec_SplitLines.f impl_SplitLines.f
    rw [s1, s2, Option.bind_some, e, if_pos (by omega), if_pos (by omega), if_neg c]
    exact ⟨rfl, rfl⟩
theorem FnExactSplitLines : laws_FnExactSplitLines.Pure := by
  intro a _
  refine ⟨3000000000000, ?_⟩
  unfold laws_FnExactSplitLines.f
  by_cases h : (a.size : Int) > 1048576
  · rw [if_pos h]
  · rw [if_neg h]
    obtain ⟨r, hr, hk⟩ := all_SplitLines a (by omega)
    obtain ⟨s1, s2⟩ := hk 3000000000000 (by omega)
    have er := eqS_self r (by omega) 3000000000000 (by omega)
    have mr := markS_eq r (by omega) 3000000000000 (by omega)
    have hd := heldS_eq r.length (by omega) 3000000000000 (by omega)
    have nr : (1 + (r.length : Int) < 0) = False := by rw [eq_iff_iff, iff_false]; omega
    rw [s1, s2, Option.bind_some, Option.bind_some, if_pos er, mr, Option.bind_some]
    simp only [nr, if_false, hd, if_true]
end Go.Proofs.Ytbcndlfnmhmigaa.Pure
