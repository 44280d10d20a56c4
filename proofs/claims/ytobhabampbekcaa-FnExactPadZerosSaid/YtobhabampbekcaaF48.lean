/- A Go function as a plain Lean function, and the proof that Go's call comes to its answer. No conditions but those in the theorem. Written by gen.py (a program of this session over the kit's print). -/
-- SHRUNK by pack.py
import Derived.Test.YtobhabampbekcaaG0
import Derived.Shelf.Strings.Repeat
namespace Go.Proofs.Ytobhabampbekcaa.G
open Go.RowKit Go.Proofs.YtobhabampbekcaaW.PrintWords Go.Proofs.YtobhabampbekcaaW.PrintLast Go.Proofs.YtobhabampbekcaaW.PrintMore Go.Proofs.YtobhabampbekcaaW.PrintBits
attribute [local go_sem] max2_int min2_int max_two min_two max_three min_three max_four min_four   -- for this text's walks alone
set_option linter.unusedVariables false
set_option linter.unusedSimpArgs false

/-! ### strings_Repeat: function 48 -/
def strings_Repeat.ren : Go.Shelf.Ren := ⟨fun | 105 => 48 | 212 => 56 | 99 => 57 | 165 => 53 | 166 => 54 | 170 => 58 | 169 => 55 | 263 => 62 | 264 => 63 | 206 => 64 | 240 => 60 | 241 => 61 | 276 => 65 | 277 => 66 | n => n, fun | 9 => 9 | 3 => 3 | 4 => 4 | 20 => 20 | 0 => 0 | 46 => 72 | 109 => 73 | 5 => 5 | 72 => 65 | 76 => 69 | 51 => 77 | 146 => 78 | 53 => 80 | 148 => 81 | 70 => 63 | 37 => 60 | 75 => 68 | 127 => 76 | 164 => 83 | 80 => 71 | n => n, fun | n => n⟩
theorem strings_Repeat.lays : Go.Proofs.Lays.n105 Try.prog strings_Repeat.ren := {
 mixed := by kernel_rfl
 f99 := Try.func57.trans (congrArg some (by kernel_rfl))
 f105 := Try.func48.trans (congrArg some (by kernel_rfl))
 f165 := Try.func53.trans (congrArg some (by kernel_rfl))
 f166 := Try.func54.trans (congrArg some (by kernel_rfl))
 f169 := Try.func55.trans (congrArg some (by kernel_rfl))
 f170 := Try.func58.trans (congrArg some (by kernel_rfl))
 f206 := Try.func64.trans (congrArg some (by kernel_rfl))
 f212 := Try.func56.trans (congrArg some (by kernel_rfl))
 f240 := Try.func60.trans (congrArg some (by kernel_rfl))
 f241 := Try.func61.trans (congrArg some (by kernel_rfl))
 f263 := Try.func62.trans (congrArg some (by kernel_rfl))
 f264 := Try.func63.trans (congrArg some (by kernel_rfl))
 f276 := Try.func65.trans (congrArg some (by kernel_rfl))
 f277 := Try.func66.trans (congrArg some (by kernel_rfl))
 t0 := Try.underlying0
 a0 := Try.isAgg0
 z0 := Try.sizeOf0
 v0 := Try.zeroValue0
 t3 := Try.underlying3
 a3 := Try.isAgg3
 z3 := Try.sizeOf3
 v3 := Try.zeroValue3
 t4 := Try.underlying4
 a4 := Try.isAgg4
 z4 := Try.sizeOf4
 v4 := Try.zeroValue4
 t5 := Try.underlying5
 a5 := Try.isAgg5
 z5 := Try.sizeOf5
 v5 := Try.zeroValue5
 t9 := Try.underlying9
 a9 := Try.isAgg9
 z9 := Try.sizeOf9
 v9 := Try.zeroValue9
 t20 := Try.underlying20
 a20 := Try.isAgg20
 z20 := Try.sizeOf20
 v20 := Try.zeroValue20
 t37 := Try.underlying60
 a37 := Try.isAgg60
 z37 := Try.sizeOf60
 v37 := Try.zeroValue60
 t46 := Try.underlying72
 a46 := Try.isAgg72
 z46 := Try.sizeOf72
 v46 := Try.zeroValue72
 t51 := Try.underlying77
 a51 := Try.isAgg77
 z51 := Try.sizeOf77
 v51 := Try.zeroValue77
 t53 := Try.underlying80
 a53 := Try.isAgg80
 z53 := Try.sizeOf80
 v53 := Try.zeroValue80
 t70 := Try.underlying63
 a70 := Try.isAgg63
 z70 := Try.sizeOf63
 v70 := Try.zeroValue63
 t72 := Try.underlying65
 a72 := Try.isAgg65
 z72 := Try.sizeOf65
 v72 := Try.zeroValue65
 t75 := Try.underlying68
 a75 := Try.isAgg68
 z75 := Try.sizeOf68
 v75 := Try.zeroValue68
 t76 := Try.underlying69
 a76 := Try.isAgg69
 z76 := Try.sizeOf69
 v76 := Try.zeroValue69
 t109 := Try.underlying73
 a109 := Try.isAgg73
 z109 := Try.sizeOf73
 v109 := Try.zeroValue73
 t127 := Try.underlying76
 a127 := Try.isAgg76
 z127 := Try.sizeOf76
 v127 := Try.zeroValue76
 t146 := Try.underlying78
 a146 := Try.isAgg78
 z146 := Try.sizeOf78
 v146 := Try.zeroValue78
 t148 := Try.underlying81
 a148 := Try.isAgg81
 z148 := Try.sizeOf81
 v148 := Try.zeroValue81
 t164 := Try.underlying83
 a164 := Try.isAgg83
 z164 := Try.sizeOf83
 v164 := Try.zeroValue83 }
theorem strings_Repeat.extra : Builder.Extra Try.prog strings_Repeat.ren := {
 sizeBuilder := by kernel_rfl
 liesBuilder := by kernel_rfl
 t5 := Try.underlying5
 a5 := Try.isAgg5
 z5 := Try.sizeOf5
 v5 := Try.zeroValue5
 infoByte := by kernel_rfl
 cellsByte := by kernel_rfl
 sizeByte := by kernel_rfl
 neB5 := by decide }
def strings_Repeat.f (a0 : ByteArray) (a1 : Int) : Option ByteArray := if 0 ≤ a1 then (if a1 ≤ 9223372036854775807 then (if a0.size * a1.toNat ≤ 140737488355328 then some ⟨(Lib.repeatL a0.data.toList a1.toNat).toArray⟩ else none) else none) else none
theorem strings_Repeat.calls (a0 : ByteArray) (a1 : Int) (r : ByteArray) (w : World) (h : strings_Repeat.f a0 a1 = some r) :
  Calls Try.prog 48 #[.string a0, .int .i64 a1] w fun e w' => e = .returned (.string r) ∧ Below w.heap.size w w' := by
 unfold strings_Repeat.f at h
 by_cases h0 : 0 ≤ a1
 ·rw [if_pos h0] at h
  by_cases h1 : a1 ≤ 9223372036854775807
  ·rw [if_pos h1] at h
   by_cases h2 : a0.size * a1.toNat ≤ 140737488355328
   ·rw [if_pos h2] at h
    obtain rfl := Option.some.inj h
    have c := Any.strings_Repeat strings_Repeat.lays strings_Repeat.extra a0 a1.toNat w (by omega) h2
    rw [Int.toNat_of_nonneg h0] at c
    exact c
   ·rw [if_neg h2] at h; cases h
  ·rw [if_neg h1] at h; cases h
 ·rw [if_neg h0] at h; cases h

end Go.Proofs.Ytobhabampbekcaa.G
