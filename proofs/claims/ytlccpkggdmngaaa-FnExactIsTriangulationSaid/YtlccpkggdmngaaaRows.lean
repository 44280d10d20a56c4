/-
  No cell of these rows narrows 'for every input' (looked for: loops, veiled, ifaces, maps, wideKeys, modest, calm, conditions, laid).
  DERIVED. THE GIVEN ROWS OF THIS SEAT. 6 by the template 'for every input the law returns true; each argument reads behind the call as it read before'; 0 by the template 'total and deterministic' (their statements: YtlccpkggdmngaaaTotals.lean).
  GIVEN WITH THE SEED: the statements are not yours to turn. If you find one false, say at which input.
  Laid BY PROGRAM, IN A SANDBOX (cutbox-rows.mjs): the forced cells as the released guide's own fill.sh prints them over the translation afe7ddac657e531e… (all of the seat's roots in one cut). By AI agents, Wed Nov 11 2026. No macro, syntax, notation, axiom, sorry.
-/
import Derived.Test.YtlccpkggdmngaaaChecked
import GoSem.Claim
import GoSem.ClaimJoined
import GoSem.ClaimMapViews
import Derived.JoinedTies
import Derived.KernelRfl
namespace Go.Proofs.Ytlccpkggdmngaaa
/- THE CELL 'sum', in the pinned program and in every row, IS THE sha256 OF THE DUMP (.gsa) THAT YtlccpkggdmngaaaProg.lean LOADS. Nothing in Lean hashes anything: it is a label: what it is worth is what the hold of that sum in a sandbox is worth. -/
noncomputable def Try.pinned : Pinned := { name := "ytlccpkggdmngaaa", sum := "afe7ddac657e531efd4adda8305d69d2e2e0f28bc2409ed145a66ea947192d07", checked := Try.checked }
namespace Rows
def none {H : Type} : Left H := { results := [], args := [] }

/-- 'laws.FnPolygons': WHATEVER THE INPUT: true; the input reads as it did. -/
def fnPolygonsSpec : ChangeSpec := { name := "fnPolygons", fn := fun _ => fun
  | [d] => { results := [.lit (.bool true)], args := [d] }
  | _ => none }
def fnPolygonsRow : OpenClaim := { program := "ytlccpkggdmngaaa", sum := "afe7ddac657e531efd4adda8305d69d2e2e0f28bc2409ed145a66ea947192d07", func := "loop.example/g03208/laws.FnPolygons", spec := "fnPolygons", unfollowed := true, recurses := true, plainKeys := false, apart := false }
def FnPolygonsSaid : Prop := fnPolygonsRow.holds Try.pinned (OpenSpec.ofChange fnPolygonsSpec)

/-- ITS FALSE NEIGHBOUR: 'it returns false'. Refute it at one input. -/
def fnPolygonsWrong : ChangeSpec := { name := "fnPolygons", fn := fun _ => fun
  | [d] => { results := [.lit (.bool false)], args := [d] }
  | _ => none }
def FnPolygonsWrongFalsely : Prop := fnPolygonsRow.holds Try.pinned (OpenSpec.ofChange fnPolygonsWrong)

/-- 'laws.FnPoints': WHATEVER THE INPUT: true; the input reads as it did. -/
def fnPointsSpec : ChangeSpec := { name := "fnPoints", fn := fun _ => fun
  | [d] => { results := [.lit (.bool true)], args := [d] }
  | _ => none }
def fnPointsRow : OpenClaim := { program := "ytlccpkggdmngaaa", sum := "afe7ddac657e531efd4adda8305d69d2e2e0f28bc2409ed145a66ea947192d07", func := "loop.example/g03208/laws.FnPoints", spec := "fnPoints", unfollowed := true, recurses := true, plainKeys := false, apart := false }
def FnPointsSaid : Prop := fnPointsRow.holds Try.pinned (OpenSpec.ofChange fnPointsSpec)

/-- ITS FALSE NEIGHBOUR: 'it returns false'. Refute it at one input. -/
def fnPointsWrong : ChangeSpec := { name := "fnPoints", fn := fun _ => fun
  | [d] => { results := [.lit (.bool false)], args := [d] }
  | _ => none }
def FnPointsWrongFalsely : Prop := fnPointsRow.holds Try.pinned (OpenSpec.ofChange fnPointsWrong)

/-- 'laws.FnExactCountTriangulations': WHATEVER THE INPUT: true; the input reads as it did. -/
def fnExactCountTriangulationsSpec : ChangeSpec := { name := "fnExactCountTriangulations", fn := fun _ => fun
  | [d] => { results := [.lit (.bool true)], args := [d] }
  | _ => none }
def fnExactCountTriangulationsRow : OpenClaim := { program := "ytlccpkggdmngaaa", sum := "afe7ddac657e531efd4adda8305d69d2e2e0f28bc2409ed145a66ea947192d07", func := "loop.example/g03208/laws.FnExactCountTriangulations", spec := "fnExactCountTriangulations", unfollowed := true, recurses := true, plainKeys := false, apart := false }
def FnExactCountTriangulationsSaid : Prop := fnExactCountTriangulationsRow.holds Try.pinned (OpenSpec.ofChange fnExactCountTriangulationsSpec)

/-- ITS FALSE NEIGHBOUR: 'it returns false'. Refute it at one input. -/
def fnExactCountTriangulationsWrong : ChangeSpec := { name := "fnExactCountTriangulations", fn := fun _ => fun
  | [d] => { results := [.lit (.bool false)], args := [d] }
  | _ => none }
def FnExactCountTriangulationsWrongFalsely : Prop := fnExactCountTriangulationsRow.holds Try.pinned (OpenSpec.ofChange fnExactCountTriangulationsWrong)

/-- 'laws.FnExactIsTriangulation': WHATEVER THE INPUT: true; the input reads as it did. -/
def fnExactIsTriangulationSpec : ChangeSpec := { name := "fnExactIsTriangulation", fn := fun _ => fun
  | [d1, d2] => { results := [.lit (.bool true)], args := [d1, d2] }
  | _ => none }
def fnExactIsTriangulationRow : OpenClaim := { program := "ytlccpkggdmngaaa", sum := "afe7ddac657e531efd4adda8305d69d2e2e0f28bc2409ed145a66ea947192d07", func := "loop.example/g03208/laws.FnExactIsTriangulation", spec := "fnExactIsTriangulation", unfollowed := true, recurses := true, plainKeys := false, apart := false }
def FnExactIsTriangulationSaid : Prop := fnExactIsTriangulationRow.holds Try.pinned (OpenSpec.ofChange fnExactIsTriangulationSpec)

/-- ITS FALSE NEIGHBOUR: 'it returns false'. Refute it at one input. -/
def fnExactIsTriangulationWrong : ChangeSpec := { name := "fnExactIsTriangulation", fn := fun _ => fun
  | [d1, d2] => { results := [.lit (.bool false)], args := [d1, d2] }
  | _ => none }
def FnExactIsTriangulationWrongFalsely : Prop := fnExactIsTriangulationRow.holds Try.pinned (OpenSpec.ofChange fnExactIsTriangulationWrong)

/-- 'laws.FnExactDiagonalsOf': WHATEVER THE INPUT: true; the input reads as it did. -/
def fnExactDiagonalsOfSpec : ChangeSpec := { name := "fnExactDiagonalsOf", fn := fun _ => fun
  | [d] => { results := [.lit (.bool true)], args := [d] }
  | _ => none }
def fnExactDiagonalsOfRow : OpenClaim := { program := "ytlccpkggdmngaaa", sum := "afe7ddac657e531efd4adda8305d69d2e2e0f28bc2409ed145a66ea947192d07", func := "loop.example/g03208/laws.FnExactDiagonalsOf", spec := "fnExactDiagonalsOf", unfollowed := true, recurses := true, plainKeys := false, apart := false }
def FnExactDiagonalsOfSaid : Prop := fnExactDiagonalsOfRow.holds Try.pinned (OpenSpec.ofChange fnExactDiagonalsOfSpec)

/-- ITS FALSE NEIGHBOUR: 'it returns false'. Refute it at one input. -/
def fnExactDiagonalsOfWrong : ChangeSpec := { name := "fnExactDiagonalsOf", fn := fun _ => fun
  | [d] => { results := [.lit (.bool false)], args := [d] }
  | _ => none }
def FnExactDiagonalsOfWrongFalsely : Prop := fnExactDiagonalsOfRow.holds Try.pinned (OpenSpec.ofChange fnExactDiagonalsOfWrong)

/-- 'laws.FnExactTriangulate': WHATEVER THE INPUT: true; the input reads as it did. -/
def fnExactTriangulateSpec : ChangeSpec := { name := "fnExactTriangulate", fn := fun _ => fun
  | [d] => { results := [.lit (.bool true)], args := [d] }
  | _ => none }
def fnExactTriangulateRow : OpenClaim := { program := "ytlccpkggdmngaaa", sum := "afe7ddac657e531efd4adda8305d69d2e2e0f28bc2409ed145a66ea947192d07", func := "loop.example/g03208/laws.FnExactTriangulate", spec := "fnExactTriangulate", unfollowed := true, recurses := true, plainKeys := false, apart := false }
def FnExactTriangulateSaid : Prop := fnExactTriangulateRow.holds Try.pinned (OpenSpec.ofChange fnExactTriangulateSpec)

/-- ITS FALSE NEIGHBOUR: 'it returns false'. Refute it at one input. -/
def fnExactTriangulateWrong : ChangeSpec := { name := "fnExactTriangulate", fn := fun _ => fun
  | [d] => { results := [.lit (.bool false)], args := [d] }
  | _ => none }
def FnExactTriangulateWrongFalsely : Prop := fnExactTriangulateRow.holds Try.pinned (OpenSpec.ofChange fnExactTriangulateWrong)

/- THE SECOND FORM. 'bulk': how many values and letters a reading holds, each counted each time it is reached (what is shared counts as often as it is met; a slice's spare places count too). A statement '..UptoSaid' is the law's where the arguments, and the package variables that the reading takes, are together of bulk at most 1048576: NARROWER than '..Said'. Prove '..Said' where nothing that the law and all that it calls make is longer than what came in: it says more and counts as full. Else prove '..UptoSaid'. A law counts once. -/
mutual
def uptoBulk {H : Type} : DataW H → Nat
  | .lit (.string bytes) => bytes.length + 1
  | .lit _ => 1
  | .nil => 1
  | .ptr d => uptoBulk d + 1
  | .slice elems spare => uptoBulkAll elems + uptoBulkAll spare + 1
  | .agg parts => uptoBulkAll parts + 1
  | .iface _ d => uptoBulk d + 1
  | .map entries => uptoBulkEntries entries + 1
  | .held _ => 1
def uptoBulkAll {H : Type} : List (DataW H) → Nat
  | [] => 0
  | d :: r => uptoBulk d + uptoBulkAll r
def uptoBulkEntries {H : Type} : List (Lit × DataW H) → Nat
  | [] => 0
  | x :: r => uptoBulkEntry x + uptoBulkEntries r
def uptoBulkEntry {H : Type} : Lit × DataW H → Nat
  | (.string bytes, d) => bytes.length + uptoBulk d + 1
  | (_, d) => uptoBulk d + 1
 end
def uptoSmall : (H : Type) → List (DataW H) → Bool := fun _ ds => decide (uptoBulkAll ds ≤ 1048576)
def OpenSpec.upto (s : _root_.Go.ChangeSpec) : _root_.Go.OpenSpec := { _root_.Go.OpenSpec.ofChange s with cond := some uptoSmall }

/-- 'laws.FnPolygons', WHERE WHAT IT READS IS OF BULK AT MOST 1048576: true; the input reads as it did. -/
def fnPolygonsUptoRow : OpenClaim := { program := "ytlccpkggdmngaaa", sum := "afe7ddac657e531efd4adda8305d69d2e2e0f28bc2409ed145a66ea947192d07", func := "loop.example/g03208/laws.FnPolygons", spec := "fnPolygons", unfollowed := true, recurses := true, plainKeys := false, apart := false, narrowed := true }
def FnPolygonsUptoSaid : Prop := fnPolygonsUptoRow.holds Try.pinned (OpenSpec.upto fnPolygonsSpec)

/-- 'laws.FnPoints', WHERE WHAT IT READS IS OF BULK AT MOST 1048576: true; the input reads as it did. -/
def fnPointsUptoRow : OpenClaim := { program := "ytlccpkggdmngaaa", sum := "afe7ddac657e531efd4adda8305d69d2e2e0f28bc2409ed145a66ea947192d07", func := "loop.example/g03208/laws.FnPoints", spec := "fnPoints", unfollowed := true, recurses := true, plainKeys := false, apart := false, narrowed := true }
def FnPointsUptoSaid : Prop := fnPointsUptoRow.holds Try.pinned (OpenSpec.upto fnPointsSpec)

/-- 'laws.FnExactCountTriangulations', WHERE WHAT IT READS IS OF BULK AT MOST 1048576: true; the input reads as it did. -/
def fnExactCountTriangulationsUptoRow : OpenClaim := { program := "ytlccpkggdmngaaa", sum := "afe7ddac657e531efd4adda8305d69d2e2e0f28bc2409ed145a66ea947192d07", func := "loop.example/g03208/laws.FnExactCountTriangulations", spec := "fnExactCountTriangulations", unfollowed := true, recurses := true, plainKeys := false, apart := false, narrowed := true }
def FnExactCountTriangulationsUptoSaid : Prop := fnExactCountTriangulationsUptoRow.holds Try.pinned (OpenSpec.upto fnExactCountTriangulationsSpec)

/-- 'laws.FnExactIsTriangulation', WHERE WHAT IT READS IS OF BULK AT MOST 1048576: true; the input reads as it did. -/
def fnExactIsTriangulationUptoRow : OpenClaim := { program := "ytlccpkggdmngaaa", sum := "afe7ddac657e531efd4adda8305d69d2e2e0f28bc2409ed145a66ea947192d07", func := "loop.example/g03208/laws.FnExactIsTriangulation", spec := "fnExactIsTriangulation", unfollowed := true, recurses := true, plainKeys := false, apart := false, narrowed := true }
def FnExactIsTriangulationUptoSaid : Prop := fnExactIsTriangulationUptoRow.holds Try.pinned (OpenSpec.upto fnExactIsTriangulationSpec)

/-- 'laws.FnExactDiagonalsOf', WHERE WHAT IT READS IS OF BULK AT MOST 1048576: true; the input reads as it did. -/
def fnExactDiagonalsOfUptoRow : OpenClaim := { program := "ytlccpkggdmngaaa", sum := "afe7ddac657e531efd4adda8305d69d2e2e0f28bc2409ed145a66ea947192d07", func := "loop.example/g03208/laws.FnExactDiagonalsOf", spec := "fnExactDiagonalsOf", unfollowed := true, recurses := true, plainKeys := false, apart := false, narrowed := true }
def FnExactDiagonalsOfUptoSaid : Prop := fnExactDiagonalsOfUptoRow.holds Try.pinned (OpenSpec.upto fnExactDiagonalsOfSpec)

/-- 'laws.FnExactTriangulate', WHERE WHAT IT READS IS OF BULK AT MOST 1048576: true; the input reads as it did. -/
def fnExactTriangulateUptoRow : OpenClaim := { program := "ytlccpkggdmngaaa", sum := "afe7ddac657e531efd4adda8305d69d2e2e0f28bc2409ed145a66ea947192d07", func := "loop.example/g03208/laws.FnExactTriangulate", spec := "fnExactTriangulate", unfollowed := true, recurses := true, plainKeys := false, apart := false, narrowed := true }
def FnExactTriangulateUptoSaid : Prop := fnExactTriangulateUptoRow.holds Try.pinned (OpenSpec.upto fnExactTriangulateSpec)

end Rows
end Go.Proofs.Ytlccpkggdmngaaa
