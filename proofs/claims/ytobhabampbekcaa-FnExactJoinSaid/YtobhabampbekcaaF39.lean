/- A Go function as a plain Lean function, and the proof that Go's call comes to its answer. No conditions but those in the theorem. Written by gen.py (a program of this session over the kit's print). -/
-- SHRUNK by pack.py
import Derived.Test.YtobhabampbekcaaG0
import Derived.Shelf.Strings.OnBuilder
namespace Go.Proofs.Ytobhabampbekcaa.G
open Go.RowKit Go.Proofs.YtobhabampbekcaaW.PrintWords Go.Proofs.YtobhabampbekcaaW.PrintLast Go.Proofs.YtobhabampbekcaaW.PrintMore Go.Proofs.YtobhabampbekcaaW.PrintBits
attribute [local go_sem] max2_int min2_int max_two min_two max_three min_three max_four min_four   -- for this text's walks alone
set_option linter.unusedVariables false
set_option linter.unusedSimpArgs false

/-! ### strings_Join: function 39 -/
def strings_Join.ren : Go.Shelf.Ren := ⟨fun | 156 => 39 | 165 => 53 | 166 => 54 | 169 => 55 | 240 => 60 | 241 => 61 | 276 => 65 | 277 => 66 | n => n, fun | 31 => 22 | 9 => 9 | 3 => 3 | 4 => 4 | 0 => 0 | 20 => 20 | 72 => 65 | 76 => 69 | 70 => 63 | 37 => 60 | 75 => 68 | 127 => 76 | 164 => 83 | 5 => 5 | 80 => 71 | n => n, fun | n => n⟩
theorem strings_Join.lays : Go.Proofs.Lays.n156 Try.prog strings_Join.ren := {
 mixed := by kernel_rfl
 f156 := Try.func39.trans (congrArg some (by kernel_rfl))
 f165 := Try.func53.trans (congrArg some (by kernel_rfl))
 f166 := Try.func54.trans (congrArg some (by kernel_rfl))
 f169 := Try.func55.trans (congrArg some (by kernel_rfl))
 f240 := Try.func60.trans (congrArg some (by kernel_rfl))
 f241 := Try.func61.trans (congrArg some (by kernel_rfl))
 f276 := Try.func65.trans (congrArg some (by kernel_rfl))
 f277 := Try.func66.trans (congrArg some (by kernel_rfl))
 t0 := Try.underlying0
 a0 := Try.isAgg0
 z0 := Try.sizeOf0
 v0 := Try.zeroValue0
 t3 := Try.underlying3
 a3 := Try.isAgg3
 z3 := Try.sizeOf3
 v3 := Try.zeroValue3
 t4 := Try.underlying4
 a4 := Try.isAgg4
 z4 := Try.sizeOf4
 v4 := Try.zeroValue4
 t9 := Try.underlying9
 a9 := Try.isAgg9
 z9 := Try.sizeOf9
 v9 := Try.zeroValue9
 t20 := Try.underlying20
 a20 := Try.isAgg20
 z20 := Try.sizeOf20
 v20 := Try.zeroValue20
 t31 := Try.underlying22
 a31 := Try.isAgg22
 z31 := Try.sizeOf22
 v31 := Try.zeroValue22
 t37 := Try.underlying60
 a37 := Try.isAgg60
 z37 := Try.sizeOf60
 v37 := Try.zeroValue60
 t70 := Try.underlying63
 a70 := Try.isAgg63
 z70 := Try.sizeOf63
 v70 := Try.zeroValue63
 t72 := Try.underlying65
 a72 := Try.isAgg65
 z72 := Try.sizeOf65
 v72 := Try.zeroValue65
 t75 := Try.underlying68
 a75 := Try.isAgg68
 z75 := Try.sizeOf68
 v75 := Try.zeroValue68
 t76 := Try.underlying69
 a76 := Try.isAgg69
 z76 := Try.sizeOf69
 v76 := Try.zeroValue69
 t127 := Try.underlying76
 a127 := Try.isAgg76
 z127 := Try.sizeOf76
 v127 := Try.zeroValue76
 t164 := Try.underlying83
 a164 := Try.isAgg83
 z164 := Try.sizeOf83
 v164 := Try.zeroValue83 }
theorem strings_Join.extra : Builder.Extra Try.prog strings_Join.ren := {
 sizeBuilder := by kernel_rfl
 liesBuilder := by kernel_rfl
 t5 := Try.underlying5
 a5 := Try.isAgg5
 z5 := Try.sizeOf5
 v5 := Try.zeroValue5
 infoByte := by kernel_rfl
 cellsByte := by kernel_rfl
 sizeByte := by kernel_rfl
 neB5 := by decide }
def strings_Join.f (l0 : List ByteArray) (a1 : ByteArray) : Option ByteArray := if l0.length ≤ 140737488355328 then (if (Lib.join (l0.map (·.data.toList)) a1.data.toList).length ≤ 140737488355328 then some ⟨(Lib.join (l0.map (·.data.toList)) a1.data.toList).toArray⟩ else none) else none
theorem strings_Join.calls (A0 : Option Addr) (c0 : Nat) (l0 : List ByteArray) (a1 : ByteArray) (r : ByteArray) (w : World) (hr0 : Kd.C Kd.string w A0 l0.length l0) (hc0 : l0.length ≤ c0) (h : strings_Join.f l0 a1 = some r) :
  Calls Try.prog 39 #[.slice A0 l0.length c0, .string a1] w fun e w' => e = .returned (.string r) ∧ Below w.heap.size w w' := by
 unfold strings_Join.f at h
 by_cases h1 : l0.length ≤ 140737488355328
 ·rw [if_pos h1] at h
  by_cases h2 : (Lib.join (l0.map (·.data.toList)) a1.data.toList).length ≤ 140737488355328
  ·rw [if_pos h2] at h
   obtain rfl := Option.some.inj h
   cases l0 with
   | nil => exact (Any.strings_Join_none strings_Join.lays strings_Join.extra A0 c0 a1 w).mono fun e w' ⟨he, hw⟩ => ⟨he, hw ▸ Below.refl _ _⟩
   | cons x l =>
    obtain ⟨ad, hA, hcells⟩ := hr0.2.2 (by simp)
    subst hA
    have cell : ∀ (j : Nat) y, (x :: l)[j]? = some y → w.cell? (ad.add j) = some (.string y) := by
     intro j y hy
     obtain ⟨c, hl, hk, hc⟩ := hcells j y hy
     have e : c = [.string y] := hk
     subst e
     have := hc 0 (.string y) rfl
     have e2 : j * (Kd.string).sz + 0 = j := by show j * 1 + 0 = j; omega
     rw [e2] at this; exact this
    have h0 := cell 0 x rfl
    have hb : (ad.add 0).block < w.heap.size := World.block_lt_of_cell? w _ h0
    have hs : ad.spot = none := by
     have e : ad.add 0 = ad := rfl
     rw [e] at h0
     unfold World.cell? at h0
     split at h0
     ·cases hsp : ad.spot with
      | none => rfl
      | some q => rw [hsp] at h0; simp at h0
     ·cases h0
    obtain ⟨bk, o, sp⟩ := ad
    simp only at hs
    subst hs
    refine Any.strings_Join strings_Join.lays strings_Join.extra bk o c0 (x :: l) a1 w (fun j y hy => ?_) hb h1 hc0 h2
    have := cell j y hy
    unfold Addr.add at this
    by_cases hj : j = 0
    ·subst hj; rw [if_pos rfl] at this; exact this
    ·rw [if_neg hj] at this; exact this
  ·rw [if_neg h2] at h; cases h
 ·rw [if_neg h1] at h; cases h

end Go.Proofs.Ytobhabampbekcaa.G
