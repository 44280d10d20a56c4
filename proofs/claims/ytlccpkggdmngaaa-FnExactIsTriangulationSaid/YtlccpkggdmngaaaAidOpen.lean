/- The law named below holds for every input, as given in Rows: no conditions of ours. Written by rows.py (a program of this session). -/
import Derived.Test.YtlccpkggdmngaaaG0
import Derived.Deep.SlicePairs
import Derived.Deep.Strs
import Derived.WideShapes
import Derived.ChangeArms
import Derived.ChangeSlices
namespace Go.Proofs.Ytlccpkggdmngaaa
open Go.ChangeShapes Go.WideShapes Go.RowKit Go.Deep Go.Proofs.Ytlccpkggdmngaaa.G Go.Proofs.YtlccpkggdmngaaaW.PrintWords Go.Proofs.YtlccpkggdmngaaaW.PrintLast Go.Proofs.YtlccpkggdmngaaaW.PrintMore
set_option linter.unusedVariables false
set_option linter.unusedSimpArgs false
theorem AidOpen.ints {H : Type} {enc : TypeId × Value → H} {P : Program} {W : World} {t e : TypeId} {k : IntKind} {a : Option Addr} {len cap : Nat} {d : DataW H} {p : List MemPlace} (ht : P.underlying t = some (.slice e)) (he : P.underlying e = some (.int k)) (hce : P.cellsOf e = 1) (h : DataW.Trod enc P W 0 (fun _ => true) true t (.slice a len cap) d p) :
    ∃ l : List Int, len = l.length ∧ Kd.C (Kd.int k) W a l.length l ∧ l.length ≤ cap ∧ l.length ≤ 9223372036854775807 ∧ ∀ x ∈ l, (Lit.int k x).wf = true := by
  obtain ⟨fuel, hf⟩ := h
  rcases open_ints ht he hce hf with ⟨hcs, _⟩ | ⟨a', len', cap', zs, hcs, hb, hl, hm, hlen, hx, hc, hwf⟩
  · simp [Value.cells] at hcs
    obtain ⟨rfl, rfl, rfl⟩ := hcs
    exact ⟨[], rfl, ⟨rfl, by simp, fun h => by simp at h⟩, Nat.le_refl _, by simp, fun x hx => by simp at hx⟩
  · simp [Value.cells] at hcs
    obtain ⟨rfl, rfl, rfl⟩ := hcs
    have hz : len ≤ zs.length := by rw [hlen]; split <;> omega
    have hcap : cap ≤ 2 ^ 63 - 1 := hm
    have ht' : (zs.take len).length = len := by rw [List.length_take]; omega
    refine ⟨zs.take len, ht'.symm, ⟨rfl, by rw [ht']; omega, fun _ => ⟨a', rfl, fun j p hj => ?_⟩⟩, by rw [ht']; exact hl, by rw [ht']; omega, fun x hx => hwf x (List.mem_of_mem_take hx)⟩
    have hj' : j < len := by
      have := (List.getElem?_eq_some_iff.1 hj).1
      rw [ht'] at this; exact this
    have hp : zs.getD j 0 = p := by
      rw [List.getElem?_take_of_lt hj'] at hj
      rw [List.getD_eq_getElem?_getD, hj]; rfl
    refine ⟨[.int k p], rfl, rfl, fun i u hu => ?_⟩
    match i, hu with
    | 0, hu =>
      simp at hu; subst hu
      show W.cell? (a'.add (j * 1 + 0)) = _
      rw [Nat.mul_one, Nat.add_zero, ← hp]
      exact hc j (by omega)
    | i + 1, hu => simp at hu
theorem AidOpen.points45 {H : Type} {enc : TypeId × Value → H} {W : World} {a : Option Addr} {len cap : Nat} {d : DataW H} {p : List MemPlace} (h : DataW.Trod enc Try.prog W 0 (fun _ => true) true 45 (.slice a len cap) d p) :
    ∃ l : List S74, len = l.length ∧ Kd.C k74 W a l.length l ∧ l.length ≤ cap ∧ l.length ≤ 9223372036854775807 ∧ ∀ x ∈ l, (Lit.int .i64 x.f0).wf = true ∧ (Lit.int .i64 x.f1).wf = true := by
  obtain ⟨fuel, hf⟩ := h
  rcases open_slice_pairs Try.underlying45 Try.underlying74 (by kernel_rfl) (by kernel_rfl) (by kernel_rfl) (by kernel_rfl) (by kernel_rfl) hf with ⟨hcs, _⟩ | ⟨a', len', cap', m, n, V0, V1, D0, D1, P0, P1, hcs, hb, hl, hm, hmm, hx, hc⟩
  · simp [Value.cells] at hcs
    obtain ⟨rfl, rfl, rfl⟩ := hcs
    exact ⟨[], rfl, ⟨rfl, by simp, fun h => by simp at h⟩, Nat.le_refl _, by simp, fun x hx => by simp at hx⟩
  · simp [Value.cells] at hcs
    obtain ⟨rfl, rfl, rfl⟩ := hcs
    have hlm : len ≤ m := by rw [hmm]; split <;> omega
    have each : ∀ i : Nat, ∃ z : S74, i < len → W.cell? (a'.add (i * 2)) = some (.int .i64 z.f0) ∧ W.cell? (a'.add (i * 2 + 1)) = some (.int .i64 z.f1) ∧ (Lit.int .i64 z.f0).wf = true ∧ (Lit.int .i64 z.f1).wf = true := by
      intro i
      by_cases hi : i < len
      · obtain ⟨c0, c1, t0, t1⟩ := hc i (by omega)
        obtain ⟨n0, e0, _, w0⟩ := DataW.trod_int Try.underlying3 t0
        obtain ⟨n1, e1, _, w1⟩ := DataW.trod_int Try.underlying3 t1
        have e0' : V0 i = .int .i64 n0 := by simpa using e0
        have e1' : V1 i = .int .i64 n1 := by simpa using e1
        rw [e0'] at c0
        rw [e1'] at c1
        exact ⟨⟨n0, n1⟩, fun _ => ⟨c0, c1, w0, w1⟩⟩
      · exact ⟨⟨0, 0⟩, fun h => absurd h hi⟩
    obtain ⟨f, hf'⟩ := Classical.axiomOfChoice each
    refine ⟨(List.range len).map f, by simp, ⟨rfl, ?_, fun _ => ⟨a', rfl, fun j p hj => ?_⟩⟩, by simpa using hl, ?_, fun x hx => ?_⟩
    · have : cap ≤ 2 ^ 63 - 1 := hm
      simp; omega
    · have hj' : j < len := by
        have := (List.getElem?_eq_some_iff.1 hj).1
        simpa using this
      have hp : p = f j := by
        rw [List.getElem?_map, List.getElem?_range hj'] at hj
        simpa using hj.symm
      subst hp
      obtain ⟨c0, c1, _, _⟩ := hf' j hj'
      refine ⟨[.int .i64 (f j).f0, .int .i64 (f j).f1], rfl, k74_mk _ _, fun i u hu => ?_⟩
      match i, hu with
      | 0, hu => simp at hu; subst hu; exact c0
      | 1, hu => simp at hu; subst hu; exact c1
      | i + 2, hu => simp at hu
    · have : cap ≤ 2 ^ 63 - 1 := hm
      simp; omega
    · obtain ⟨i, hi, rfl⟩ := List.mem_map.1 hx
      have := hf' i (by simpa using hi)
      exact ⟨this.2.2.1, this.2.2.2⟩
theorem AidOpen.rows49 {H : Type} {enc : TypeId × Value → H} {W : World} {a : Option Addr} {len cap : Nat} {d : DataW H} {p : List MemPlace} (h : DataW.Trod enc Try.prog W 0 (fun _ => true) true 49 (.slice a len cap) d p) :
    ∃ l : List (List Int), len = l.length ∧ Kd.C (Kd.slice 78 (Kd.int .i64)) W a l.length l ∧ l.length ≤ cap ∧ l.length ≤ 9223372036854775807 ∧ ∀ x ∈ l, x.length ≤ 9223372036854775807 := by
  obtain ⟨fuel, hf⟩ := h
  rcases open_slice1 Try.underlying49 (by kernel_rfl) hf with ⟨hcs, _⟩ | ⟨a', len', cap', m, n, V, D, Pl, hcs, hb, hl, hm, hmm, hx, hc⟩
  · simp [Value.cells] at hcs
    obtain ⟨rfl, rfl, rfl⟩ := hcs
    exact ⟨[], rfl, ⟨rfl, by simp, fun h => by simp at h⟩, Nat.le_refl _, by simp, fun x hx => by simp at hx⟩
  · simp [Value.cells] at hcs
    obtain ⟨rfl, rfl, rfl⟩ := hcs
    have hlm : len ≤ m := by rw [hmm]; split <;> omega
    have hcap : cap ≤ 2 ^ 63 - 1 := hm
    have each : ∀ i : Nat, ∃ z : List Int, i < len → ∃ (A : Option Addr) (c : Nat), W.cell? (a'.add i) = some (.slice A z.length c) ∧ z.length ≤ c ∧ Kd.C (Kd.int .i64) W A z.length z := by
      intro i
      by_cases hi : i < len
      · obtain ⟨c0, t0⟩ := hc i (by omega)
        rcases open_ints Try.underlying78 Try.underlying3 (by kernel_rfl) t0 with ⟨hcs2, _⟩ | ⟨a2, len2, cap2, zs, hcs2, _, hl2, hm2, hlen2, _, hc2, _⟩
        · have hv := (List.cons.inj hcs2).1
          exact ⟨[], fun _ => ⟨none, 0, by rw [c0, hv]; rfl, Nat.le_refl _, ⟨rfl, by simp, fun h => by simp at h⟩⟩⟩
        · have hv := (List.cons.inj hcs2).1
          have hz : len2 ≤ zs.length := by rw [hlen2]; split <;> omega
          have hcap2 : cap2 ≤ 2 ^ 63 - 1 := hm2
          have ht : (zs.take len2).length = len2 := by rw [List.length_take]; omega
          refine ⟨zs.take len2, fun _ => ⟨some a2, cap2, by rw [c0, hv, ht], by rw [ht]; exact hl2, ⟨rfl, by rw [ht]; omega, fun _ => ⟨a2, rfl, fun j p hj => ?_⟩⟩⟩⟩
          have hj' : j < len2 := by
            have := (List.getElem?_eq_some_iff.1 hj).1
            rw [ht] at this; exact this
          have hp : zs.getD j 0 = p := by
            rw [List.getElem?_take_of_lt hj'] at hj
            rw [List.getD_eq_getElem?_getD, hj]; rfl
          refine ⟨[.int .i64 p], rfl, rfl, fun i u hu => ?_⟩
          match i, hu with
          | 0, hu =>
            simp at hu; subst hu
            show W.cell? (a2.add (j * 1 + 0)) = _
            rw [Nat.mul_one, Nat.add_zero, ← hp]
            exact hc2 j (by omega)
          | i + 1, hu => simp at hu
      · exact ⟨[], fun h => absurd h hi⟩
    obtain ⟨f, hf'⟩ := Classical.axiomOfChoice each
    refine ⟨(List.range len).map f, by simp, ⟨rfl, by simp; omega, fun _ => ⟨a', rfl, fun j p hj => ?_⟩⟩, by simpa using hl, by simp; omega, fun x hx => ?_⟩
    · have hj' : j < len := by
        have := (List.getElem?_eq_some_iff.1 hj).1
        simpa using this
      have hp : p = f j := by
        rw [List.getElem?_map, List.getElem?_range hj'] at hj
        simpa using hj.symm
      subst hp
      obtain ⟨A, c, h1, h2, h3⟩ := hf' j hj'
      refine ⟨[.slice A (f j).length c], rfl, ⟨A, c, rfl, h2, h3⟩, fun i u hu => ?_⟩
      match i, hu with
      | 0, hu =>
        simp at hu; subst hu
        show W.cell? (a'.add (j * 1 + 0)) = _
        rw [Nat.mul_one, Nat.add_zero]
        exact h1
      | i + 1, hu => simp at hu
    · obtain ⟨i, hi, rfl⟩ := List.mem_map.1 hx
      obtain ⟨A, c, h1, h2, h3⟩ := hf' i (by simpa using hi)
      exact h3.2.1
end Go.Proofs.Ytlccpkggdmngaaa
