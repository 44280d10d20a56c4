/- The law named below holds for every input, as given in Rows: no conditions of ours. Written by rows.py (a program of this session). -/
import Derived.Test.YtlccpkggdmngaaaG0
import Derived.Deep.SlicePairs
import Derived.Deep.Strs
import Derived.WideShapes
import Derived.ChangeArms
import Derived.ChangeSlices
namespace Go.Proofs.Ytlccpkggdmngaaa
open Go.ChangeShapes Go.WideShapes Go.RowKit Go.Deep Go.Proofs.Ytlccpkggdmngaaa.G Go.Proofs.YtlccpkggdmngaaaW.PrintWords Go.Proofs.YtlccpkggdmngaaaW.PrintLast Go.Proofs.YtlccpkggdmngaaaW.PrintMore
set_option linter.unusedVariables false
set_option linter.unusedSimpArgs false
theorem AidOpen.ints {H : Type} {enc : TypeId × Value → H} {P : Program} {W : World} {t e : TypeId} {k : IntKind} {a : Option Addr} {len cap : Nat} {d : DataW H} {p : List MemPlace} (ht : P.underlying t = some (.slice e)) (he : P.underlying e = some (.int k)) (hce : P.cellsOf e = 1) (h : DataW.Trod enc P W 0 (fun _ => true) true t (.slice a len cap) d p) :
    ∃ l : List Int, len = l.length ∧ Kd.C (Kd.int k) W a l.length l ∧ l.length ≤ cap ∧ l.length ≤ 9223372036854775807 ∧ ∀ x ∈ l, (Lit.int k x).wf = true := by
  obtain ⟨fuel, hf⟩ := h
  rcases open_ints ht he hce hf with ⟨hcs, _⟩ | ⟨a', len', cap', zs, hcs, hb, hl, hm, hlen, hx, hc, hwf⟩
  · simp [Value.cells] at hcs
    obtain ⟨rfl, rfl, rfl⟩ := hcs
    exact ⟨[], rfl, ⟨rfl, by simp, fun h => by simp at h⟩, Nat.le_refl _, by simp, fun x hx => by simp at hx⟩
  · simp [Value.cells] at hcs
    obtain ⟨rfl, rfl, rfl⟩ := hcs
    have hz : len ≤ zs.length := by rw [hlen]; split <;> omega
    have hcap : cap ≤ 2 ^ 63 - 1 := hm
    have ht' : (zs.take len).length = len := by rw [List.length_take]; omega
    refine ⟨zs.take len, ht'.symm, ⟨rfl, by rw [ht']; omega, fun _ => ⟨a', rfl, fun j p hj => ?_⟩⟩, by rw [ht']; exact hl, by rw [ht']; omega, fun x hx => hwf x (List.mem_of_mem_take hx)⟩
    have hj' : j < len := by
      have := (List.getElem?_eq_some_iff.1 hj).1
      rw [ht'] at this; exact this
    have hp : zs.getD j 0 = p := by
      rw [List.getElem?_take_of_lt hj'] at hj
      rw [List.getD_eq_getElem?_getD, hj]; rfl
    refine ⟨[.int k p], rfl, rfl, fun i u hu => ?_⟩
    match i, hu with
    | 0, hu =>
      simp at hu; subst hu
      show W.cell? (a'.add (j * 1 + 0)) = _
      rw [Nat.mul_one, Nat.add_zero, ← hp]
      exact hc j (by omega)
    | i + 1, hu => simp at hu
end Go.Proofs.Ytlccpkggdmngaaa
