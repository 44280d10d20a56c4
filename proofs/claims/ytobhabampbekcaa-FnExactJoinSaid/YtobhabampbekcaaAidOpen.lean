/- The law named below holds for every input, as given in Rows: no conditions of ours. Written by rows.py (a program of this session). -/
import Derived.Test.YtobhabampbekcaaG0
import Derived.Deep.SlicePairs
import Derived.Deep.Strs
import Derived.WideShapes
import Derived.ChangeArms
import Derived.ChangeSlices
namespace Go.Proofs.Ytobhabampbekcaa
open Go.ChangeShapes Go.WideShapes Go.RowKit Go.Deep Go.Proofs.Ytobhabampbekcaa.G Go.Proofs.YtobhabampbekcaaW.PrintWords Go.Proofs.YtobhabampbekcaaW.PrintLast Go.Proofs.YtobhabampbekcaaW.PrintMore
set_option linter.unusedVariables false
set_option linter.unusedSimpArgs false
theorem AidOpen.strs22 {H : Type} {enc : TypeId × Value → H} {W : World} {a : Option Addr} {len cap : Nat} {d : DataW H} {p : List MemPlace} (h : DataW.Trod enc Try.prog W 0 (fun _ => true) true 22 (.slice a len cap) d p) :
    ∃ l : List ByteArray, len = l.length ∧ Kd.C Kd.string W a l.length l ∧ l.length ≤ cap ∧ l.length ≤ 9223372036854775807 ∧ ∀ x ∈ l, x.size ≤ 9223372036854775807 := by
  obtain ⟨fuel, hf⟩ := h
  rcases open_strs Try.underlying22 Try.underlying9 (by kernel_rfl) hf with ⟨hcs, _⟩ | ⟨a', len', cap', m, Sx, hcs, hb, hl, hm, hmm, hx, hc⟩
  · simp [Value.cells] at hcs
    obtain ⟨rfl, rfl, rfl⟩ := hcs
    exact ⟨[], rfl, ⟨rfl, by simp, fun h => by simp at h⟩, Nat.le_refl _, by simp, fun x hx => by simp at hx⟩
  · simp [Value.cells] at hcs
    obtain ⟨rfl, rfl, rfl⟩ := hcs
    have hlm : len ≤ m := by rw [hmm]; split <;> omega
    have hcap : cap ≤ 2 ^ 63 - 1 := hm
    refine ⟨(List.range len).map Sx, by simp, ⟨rfl, by simp; omega, fun _ => ⟨a', rfl, fun j p hj => ?_⟩⟩, by simpa using hl, by simp; omega, fun x hx => ?_⟩
    · have hj' : j < len := by
        have := (List.getElem?_eq_some_iff.1 hj).1
        simpa using this
      have hp : p = Sx j := by
        rw [List.getElem?_map, List.getElem?_range hj'] at hj
        simpa using hj.symm
      subst hp
      refine ⟨[.string (Sx j)], rfl, rfl, fun i u hu => ?_⟩
      match i, hu with
      | 0, hu =>
        simp at hu; subst hu
        show W.cell? (a'.add (j * 1 + 0)) = _
        rw [Nat.mul_one, Nat.add_zero]
        exact (hc j (by omega)).1
      | i + 1, hu => simp at hu
    · obtain ⟨i, hi, rfl⟩ := List.mem_map.1 hx
      have hi' : i < len := by simpa using hi
      have : (Sx i).size ≤ 2 ^ 63 - 1 := (hc i (by omega)).2
      omega
theorem AidOpen.rows42 {H : Type} {enc : TypeId × Value → H} {W : World} {a : Option Addr} {len cap : Nat} {d : DataW H} {p : List MemPlace} (h : DataW.Trod enc Try.prog W 0 (fun _ => true) true 42 (.slice a len cap) d p) :
    ∃ l : List (List Int), len = l.length ∧ Kd.C (Kd.slice 31 (Kd.int .i64)) W a l.length l ∧ l.length ≤ cap ∧ l.length ≤ 9223372036854775807 ∧ ∀ x ∈ l, x.length ≤ 9223372036854775807 := by
  obtain ⟨fuel, hf⟩ := h
  rcases open_slice1 Try.underlying42 (by kernel_rfl) hf with ⟨hcs, _⟩ | ⟨a', len', cap', m, n, V, D, Pl, hcs, hb, hl, hm, hmm, hx, hc⟩
  · simp [Value.cells] at hcs
    obtain ⟨rfl, rfl, rfl⟩ := hcs
    exact ⟨[], rfl, ⟨rfl, by simp, fun h => by simp at h⟩, Nat.le_refl _, by simp, fun x hx => by simp at hx⟩
  · simp [Value.cells] at hcs
    obtain ⟨rfl, rfl, rfl⟩ := hcs
    have hlm : len ≤ m := by rw [hmm]; split <;> omega
    have hcap : cap ≤ 2 ^ 63 - 1 := hm
    have each : ∀ i : Nat, ∃ z : List Int, i < len → ∃ (A : Option Addr) (c : Nat), W.cell? (a'.add i) = some (.slice A z.length c) ∧ z.length ≤ c ∧ Kd.C (Kd.int .i64) W A z.length z := by
      intro i
      by_cases hi : i < len
      · obtain ⟨c0, t0⟩ := hc i (by omega)
        rcases open_ints Try.underlying31 Try.underlying3 (by kernel_rfl) t0 with ⟨hcs2, _⟩ | ⟨a2, len2, cap2, zs, hcs2, _, hl2, hm2, hlen2, _, hc2, _⟩
        · have hv := (List.cons.inj hcs2).1
          exact ⟨[], fun _ => ⟨none, 0, by rw [c0, hv]; rfl, Nat.le_refl _, ⟨rfl, by simp, fun h => by simp at h⟩⟩⟩
        · have hv := (List.cons.inj hcs2).1
          have hz : len2 ≤ zs.length := by rw [hlen2]; split <;> omega
          have hcap2 : cap2 ≤ 2 ^ 63 - 1 := hm2
          have ht : (zs.take len2).length = len2 := by rw [List.length_take]; omega
          refine ⟨zs.take len2, fun _ => ⟨some a2, cap2, by rw [c0, hv, ht], by rw [ht]; exact hl2, ⟨rfl, by rw [ht]; omega, fun _ => ⟨a2, rfl, fun j p hj => ?_⟩⟩⟩⟩
          have hj' : j < len2 := by
            have := (List.getElem?_eq_some_iff.1 hj).1
            rw [ht] at this; exact this
          have hp : zs.getD j 0 = p := by
            rw [List.getElem?_take_of_lt hj'] at hj
            rw [List.getD_eq_getElem?_getD, hj]; rfl
          refine ⟨[.int .i64 p], rfl, rfl, fun i u hu => ?_⟩
          match i, hu with
          | 0, hu =>
            simp at hu; subst hu
            show W.cell? (a2.add (j * 1 + 0)) = _
            rw [Nat.mul_one, Nat.add_zero, ← hp]
            exact hc2 j (by omega)
          | i + 1, hu => simp at hu
      · exact ⟨[], fun h => absurd h hi⟩
    obtain ⟨f, hf'⟩ := Classical.axiomOfChoice each
    refine ⟨(List.range len).map f, by simp, ⟨rfl, by simp; omega, fun _ => ⟨a', rfl, fun j p hj => ?_⟩⟩, by simpa using hl, by simp; omega, fun x hx => ?_⟩
    · have hj' : j < len := by
        have := (List.getElem?_eq_some_iff.1 hj).1
        simpa using this
      have hp : p = f j := by
        rw [List.getElem?_map, List.getElem?_range hj'] at hj
        simpa using hj.symm
      subst hp
      obtain ⟨A, c, h1, h2, h3⟩ := hf' j hj'
      refine ⟨[.slice A (f j).length c], rfl, ⟨A, c, rfl, h2, h3⟩, fun i u hu => ?_⟩
      match i, hu with
      | 0, hu =>
        simp at hu; subst hu
        show W.cell? (a'.add (j * 1 + 0)) = _
        rw [Nat.mul_one, Nat.add_zero]
        exact h1
      | i + 1, hu => simp at hu
    · obtain ⟨i, hi, rfl⟩ := List.mem_map.1 hx
      obtain ⟨A, c, h1, h2, h3⟩ := hf' i (by simpa using hi)
      exact h3.2.1
end Go.Proofs.Ytobhabampbekcaa
