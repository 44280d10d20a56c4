/-
  No cell of these rows narrows 'for every input' (looked for: loops, veiled, ifaces, maps, wideKeys, modest, calm, conditions, laid).
  DERIVED. THE GIVEN ROWS OF THIS SEAT. 12 by the template 'for every input the law returns true; each argument reads behind the call as it read before'; 0 by the template 'total and deterministic' (their statements: YtejnnpkfkpcnmaaTotals.lean).
  GIVEN WITH THE SEED: the statements are not yours to turn. If you find one false, say at which input.
  Laid BY PROGRAM, IN A SANDBOX (cutbox-rows.mjs): the forced cells as the released guide's own fill.sh prints them over the translation 6097ae25d15c5d80… (all of the seat's roots in one cut). By AI agents, Wed Nov 11 2026. No macro, syntax, notation, axiom, sorry.
-/
import Derived.Test.YtejnnpkfkpcnmaaChecked
import GoSem.Claim
import GoSem.ClaimJoined
import GoSem.ClaimMapViews
import Derived.JoinedTies
import Derived.KernelRfl
namespace Go.Proofs.Ytejnnpkfkpcnmaa
/- THE CELL 'sum', in the pinned program and in every row, IS THE sha256 OF THE DUMP (.gsa) THAT YtejnnpkfkpcnmaaProg.lean LOADS. Nothing in Lean hashes anything: it is a label: what it is worth is what the hold of that sum in a sandbox is worth. -/
noncomputable def Try.pinned : Pinned := { name := "ytejnnpkfkpcnmaa", sum := "6097ae25d15c5d80037b488899a8782ddc057c73c2d0b469460498ec6418c046", checked := Try.checked }
namespace Rows
def none {H : Type} : Left H := { results := [], args := [] }

/-- 'laws.FnExactShiftPolygon': WHATEVER THE INPUT: true; the input reads as it did. -/
def fnExactShiftPolygonSpec : ChangeSpec := { name := "fnExactShiftPolygon", fn := fun _ => fun
  | [d1, d2, d3] => { results := [.lit (.bool true)], args := [d1, d2, d3] }
  | _ => none }
def fnExactShiftPolygonRow : OpenClaim := { program := "ytejnnpkfkpcnmaa", sum := "6097ae25d15c5d80037b488899a8782ddc057c73c2d0b469460498ec6418c046", func := "loop.example/g03208/laws.FnExactShiftPolygon", spec := "fnExactShiftPolygon", unfollowed := true, recurses := true, apart := false }
def FnExactShiftPolygonSaid : Prop := fnExactShiftPolygonRow.holds Try.pinned (OpenSpec.ofChange fnExactShiftPolygonSpec)

/-- ITS FALSE NEIGHBOUR: 'it returns false'. Refute it at one input. -/
def fnExactShiftPolygonWrong : ChangeSpec := { name := "fnExactShiftPolygon", fn := fun _ => fun
  | [d1, d2, d3] => { results := [.lit (.bool false)], args := [d1, d2, d3] }
  | _ => none }
def FnExactShiftPolygonWrongFalsely : Prop := fnExactShiftPolygonRow.holds Try.pinned (OpenSpec.ofChange fnExactShiftPolygonWrong)

/-- 'laws.FnExactStraightened': WHATEVER THE INPUT: true; the input reads as it did. -/
def fnExactStraightenedSpec : ChangeSpec := { name := "fnExactStraightened", fn := fun _ => fun
  | [d] => { results := [.lit (.bool true)], args := [d] }
  | _ => none }
def fnExactStraightenedRow : OpenClaim := { program := "ytejnnpkfkpcnmaa", sum := "6097ae25d15c5d80037b488899a8782ddc057c73c2d0b469460498ec6418c046", func := "loop.example/g03208/laws.FnExactStraightened", spec := "fnExactStraightened", unfollowed := true, recurses := true, apart := false }
def FnExactStraightenedSaid : Prop := fnExactStraightenedRow.holds Try.pinned (OpenSpec.ofChange fnExactStraightenedSpec)

/-- ITS FALSE NEIGHBOUR: 'it returns false'. Refute it at one input. -/
def fnExactStraightenedWrong : ChangeSpec := { name := "fnExactStraightened", fn := fun _ => fun
  | [d] => { results := [.lit (.bool false)], args := [d] }
  | _ => none }
def FnExactStraightenedWrongFalsely : Prop := fnExactStraightenedRow.holds Try.pinned (OpenSpec.ofChange fnExactStraightenedWrong)

/-- 'laws.FnExactTurnPolygon': WHATEVER THE INPUT: true; the input reads as it did. -/
def fnExactTurnPolygonSpec : ChangeSpec := { name := "fnExactTurnPolygon", fn := fun _ => fun
  | [d] => { results := [.lit (.bool true)], args := [d] }
  | _ => none }
def fnExactTurnPolygonRow : OpenClaim := { program := "ytejnnpkfkpcnmaa", sum := "6097ae25d15c5d80037b488899a8782ddc057c73c2d0b469460498ec6418c046", func := "loop.example/g03208/laws.FnExactTurnPolygon", spec := "fnExactTurnPolygon", unfollowed := true, recurses := true, apart := false }
def FnExactTurnPolygonSaid : Prop := fnExactTurnPolygonRow.holds Try.pinned (OpenSpec.ofChange fnExactTurnPolygonSpec)

/-- ITS FALSE NEIGHBOUR: 'it returns false'. Refute it at one input. -/
def fnExactTurnPolygonWrong : ChangeSpec := { name := "fnExactTurnPolygon", fn := fun _ => fun
  | [d] => { results := [.lit (.bool false)], args := [d] }
  | _ => none }
def FnExactTurnPolygonWrongFalsely : Prop := fnExactTurnPolygonRow.holds Try.pinned (OpenSpec.ofChange fnExactTurnPolygonWrong)

/-- 'laws.FnExactStartAt': WHATEVER THE INPUT: true; the input reads as it did. -/
def fnExactStartAtSpec : ChangeSpec := { name := "fnExactStartAt", fn := fun _ => fun
  | [d1, d2] => { results := [.lit (.bool true)], args := [d1, d2] }
  | _ => none }
def fnExactStartAtRow : OpenClaim := { program := "ytejnnpkfkpcnmaa", sum := "6097ae25d15c5d80037b488899a8782ddc057c73c2d0b469460498ec6418c046", func := "loop.example/g03208/laws.FnExactStartAt", spec := "fnExactStartAt", unfollowed := true, recurses := true, apart := false }
def FnExactStartAtSaid : Prop := fnExactStartAtRow.holds Try.pinned (OpenSpec.ofChange fnExactStartAtSpec)

/-- ITS FALSE NEIGHBOUR: 'it returns false'. Refute it at one input. -/
def fnExactStartAtWrong : ChangeSpec := { name := "fnExactStartAt", fn := fun _ => fun
  | [d1, d2] => { results := [.lit (.bool false)], args := [d1, d2] }
  | _ => none }
def FnExactStartAtWrongFalsely : Prop := fnExactStartAtRow.holds Try.pinned (OpenSpec.ofChange fnExactStartAtWrong)

/-- 'laws.FnExactInnerPoints': WHATEVER THE INPUT: true; the input reads as it did. -/
def fnExactInnerPointsSpec : ChangeSpec := { name := "fnExactInnerPoints", fn := fun _ => fun
  | [d] => { results := [.lit (.bool true)], args := [d] }
  | _ => none }
def fnExactInnerPointsRow : OpenClaim := { program := "ytejnnpkfkpcnmaa", sum := "6097ae25d15c5d80037b488899a8782ddc057c73c2d0b469460498ec6418c046", func := "loop.example/g03208/laws.FnExactInnerPoints", spec := "fnExactInnerPoints", unfollowed := true, recurses := true, apart := false }
def FnExactInnerPointsSaid : Prop := fnExactInnerPointsRow.holds Try.pinned (OpenSpec.ofChange fnExactInnerPointsSpec)

/-- ITS FALSE NEIGHBOUR: 'it returns false'. Refute it at one input. -/
def fnExactInnerPointsWrong : ChangeSpec := { name := "fnExactInnerPoints", fn := fun _ => fun
  | [d] => { results := [.lit (.bool false)], args := [d] }
  | _ => none }
def FnExactInnerPointsWrongFalsely : Prop := fnExactInnerPointsRow.holds Try.pinned (OpenSpec.ofChange fnExactInnerPointsWrong)

/-- 'laws.FnExactMovePolygon': WHATEVER THE INPUT: true; the input reads as it did. -/
def fnExactMovePolygonSpec : ChangeSpec := { name := "fnExactMovePolygon", fn := fun _ => fun
  | [d1, d2] => { results := [.lit (.bool true)], args := [d1, d2] }
  | _ => none }
def fnExactMovePolygonRow : OpenClaim := { program := "ytejnnpkfkpcnmaa", sum := "6097ae25d15c5d80037b488899a8782ddc057c73c2d0b469460498ec6418c046", func := "loop.example/g03208/laws.FnExactMovePolygon", spec := "fnExactMovePolygon", unfollowed := true, recurses := true, apart := false }
def FnExactMovePolygonSaid : Prop := fnExactMovePolygonRow.holds Try.pinned (OpenSpec.ofChange fnExactMovePolygonSpec)

/-- ITS FALSE NEIGHBOUR: 'it returns false'. Refute it at one input. -/
def fnExactMovePolygonWrong : ChangeSpec := { name := "fnExactMovePolygon", fn := fun _ => fun
  | [d1, d2] => { results := [.lit (.bool false)], args := [d1, d2] }
  | _ => none }
def FnExactMovePolygonWrongFalsely : Prop := fnExactMovePolygonRow.holds Try.pinned (OpenSpec.ofChange fnExactMovePolygonWrong)

/-- 'laws.FnExactIsOval': WHATEVER THE INPUT: true; the input reads as it did. -/
def fnExactIsOvalSpec : ChangeSpec := { name := "fnExactIsOval", fn := fun _ => fun
  | [d] => { results := [.lit (.bool true)], args := [d] }
  | _ => none }
def fnExactIsOvalRow : OpenClaim := { program := "ytejnnpkfkpcnmaa", sum := "6097ae25d15c5d80037b488899a8782ddc057c73c2d0b469460498ec6418c046", func := "loop.example/g03208/laws.FnExactIsOval", spec := "fnExactIsOval", unfollowed := true, recurses := true, apart := false }
def FnExactIsOvalSaid : Prop := fnExactIsOvalRow.holds Try.pinned (OpenSpec.ofChange fnExactIsOvalSpec)

/-- ITS FALSE NEIGHBOUR: 'it returns false'. Refute it at one input. -/
def fnExactIsOvalWrong : ChangeSpec := { name := "fnExactIsOval", fn := fun _ => fun
  | [d] => { results := [.lit (.bool false)], args := [d] }
  | _ => none }
def FnExactIsOvalWrongFalsely : Prop := fnExactIsOvalRow.holds Try.pinned (OpenSpec.ofChange fnExactIsOvalWrong)

/-- 'laws.FnExactSamePolygon': WHATEVER THE INPUT: true; the input reads as it did. -/
def fnExactSamePolygonSpec : ChangeSpec := { name := "fnExactSamePolygon", fn := fun _ => fun
  | [d1, d2] => { results := [.lit (.bool true)], args := [d1, d2] }
  | _ => none }
def fnExactSamePolygonRow : OpenClaim := { program := "ytejnnpkfkpcnmaa", sum := "6097ae25d15c5d80037b488899a8782ddc057c73c2d0b469460498ec6418c046", func := "loop.example/g03208/laws.FnExactSamePolygon", spec := "fnExactSamePolygon", unfollowed := true, recurses := true, apart := false }
def FnExactSamePolygonSaid : Prop := fnExactSamePolygonRow.holds Try.pinned (OpenSpec.ofChange fnExactSamePolygonSpec)

/-- ITS FALSE NEIGHBOUR: 'it returns false'. Refute it at one input. -/
def fnExactSamePolygonWrong : ChangeSpec := { name := "fnExactSamePolygon", fn := fun _ => fun
  | [d1, d2] => { results := [.lit (.bool false)], args := [d1, d2] }
  | _ => none }
def FnExactSamePolygonWrongFalsely : Prop := fnExactSamePolygonRow.holds Try.pinned (OpenSpec.ofChange fnExactSamePolygonWrong)

/-- 'laws.FnExactHullGap': WHATEVER THE INPUT: true; the input reads as it did. -/
def fnExactHullGapSpec : ChangeSpec := { name := "fnExactHullGap", fn := fun _ => fun
  | [d] => { results := [.lit (.bool true)], args := [d] }
  | _ => none }
def fnExactHullGapRow : OpenClaim := { program := "ytejnnpkfkpcnmaa", sum := "6097ae25d15c5d80037b488899a8782ddc057c73c2d0b469460498ec6418c046", func := "loop.example/g03208/laws.FnExactHullGap", spec := "fnExactHullGap", unfollowed := true, recurses := true, apart := false }
def FnExactHullGapSaid : Prop := fnExactHullGapRow.holds Try.pinned (OpenSpec.ofChange fnExactHullGapSpec)

/-- ITS FALSE NEIGHBOUR: 'it returns false'. Refute it at one input. -/
def fnExactHullGapWrong : ChangeSpec := { name := "fnExactHullGap", fn := fun _ => fun
  | [d] => { results := [.lit (.bool false)], args := [d] }
  | _ => none }
def FnExactHullGapWrongFalsely : Prop := fnExactHullGapRow.holds Try.pinned (OpenSpec.ofChange fnExactHullGapWrong)

/-- 'laws.FnExactIsTurned': WHATEVER THE INPUT: true; the input reads as it did. -/
def fnExactIsTurnedSpec : ChangeSpec := { name := "fnExactIsTurned", fn := fun _ => fun
  | [d1, d2, d3] => { results := [.lit (.bool true)], args := [d1, d2, d3] }
  | _ => none }
def fnExactIsTurnedRow : OpenClaim := { program := "ytejnnpkfkpcnmaa", sum := "6097ae25d15c5d80037b488899a8782ddc057c73c2d0b469460498ec6418c046", func := "loop.example/g03208/laws.FnExactIsTurned", spec := "fnExactIsTurned", unfollowed := true, recurses := true, apart := false }
def FnExactIsTurnedSaid : Prop := fnExactIsTurnedRow.holds Try.pinned (OpenSpec.ofChange fnExactIsTurnedSpec)

/-- ITS FALSE NEIGHBOUR: 'it returns false'. Refute it at one input. -/
def fnExactIsTurnedWrong : ChangeSpec := { name := "fnExactIsTurned", fn := fun _ => fun
  | [d1, d2, d3] => { results := [.lit (.bool false)], args := [d1, d2, d3] }
  | _ => none }
def FnExactIsTurnedWrongFalsely : Prop := fnExactIsTurnedRow.holds Try.pinned (OpenSpec.ofChange fnExactIsTurnedWrong)

/-- 'laws.FnExactIsCongruent': WHATEVER THE INPUT: true; the input reads as it did. -/
def fnExactIsCongruentSpec : ChangeSpec := { name := "fnExactIsCongruent", fn := fun _ => fun
  | [d1, d2] => { results := [.lit (.bool true)], args := [d1, d2] }
  | _ => none }
def fnExactIsCongruentRow : OpenClaim := { program := "ytejnnpkfkpcnmaa", sum := "6097ae25d15c5d80037b488899a8782ddc057c73c2d0b469460498ec6418c046", func := "loop.example/g03208/laws.FnExactIsCongruent", spec := "fnExactIsCongruent", unfollowed := true, recurses := true, apart := false }
def FnExactIsCongruentSaid : Prop := fnExactIsCongruentRow.holds Try.pinned (OpenSpec.ofChange fnExactIsCongruentSpec)

/-- ITS FALSE NEIGHBOUR: 'it returns false'. Refute it at one input. -/
def fnExactIsCongruentWrong : ChangeSpec := { name := "fnExactIsCongruent", fn := fun _ => fun
  | [d1, d2] => { results := [.lit (.bool false)], args := [d1, d2] }
  | _ => none }
def FnExactIsCongruentWrongFalsely : Prop := fnExactIsCongruentRow.holds Try.pinned (OpenSpec.ofChange fnExactIsCongruentWrong)

/-- 'laws.FnExactShapeOf': WHATEVER THE INPUT: true; the input reads as it did. -/
def fnExactShapeOfSpec : ChangeSpec := { name := "fnExactShapeOf", fn := fun _ => fun
  | [d] => { results := [.lit (.bool true)], args := [d] }
  | _ => none }
def fnExactShapeOfRow : OpenClaim := { program := "ytejnnpkfkpcnmaa", sum := "6097ae25d15c5d80037b488899a8782ddc057c73c2d0b469460498ec6418c046", func := "loop.example/g03208/laws.FnExactShapeOf", spec := "fnExactShapeOf", unfollowed := true, recurses := true, apart := false }
def FnExactShapeOfSaid : Prop := fnExactShapeOfRow.holds Try.pinned (OpenSpec.ofChange fnExactShapeOfSpec)

/-- ITS FALSE NEIGHBOUR: 'it returns false'. Refute it at one input. -/
def fnExactShapeOfWrong : ChangeSpec := { name := "fnExactShapeOf", fn := fun _ => fun
  | [d] => { results := [.lit (.bool false)], args := [d] }
  | _ => none }
def FnExactShapeOfWrongFalsely : Prop := fnExactShapeOfRow.holds Try.pinned (OpenSpec.ofChange fnExactShapeOfWrong)

/- THE SECOND FORM. 'bulk': how many values and letters a reading holds, each counted each time it is reached (what is shared counts as often as it is met; a slice's spare places count too). A statement '..UptoSaid' is the law's where the arguments, and the package variables that the reading takes, are together of bulk at most 1048576: NARROWER than '..Said'. Prove '..Said' where nothing that the law and all that it calls make is longer than what came in: it says more and counts as full. Else prove '..UptoSaid'. A law counts once. -/
mutual
def uptoBulk {H : Type} : DataW H → Nat
  | .lit (.string bytes) => bytes.length + 1
  | .lit _ => 1
  | .nil => 1
  | .ptr d => uptoBulk d + 1
  | .slice elems spare => uptoBulkAll elems + uptoBulkAll spare + 1
  | .agg parts => uptoBulkAll parts + 1
  | .iface _ d => uptoBulk d + 1
  | .map entries => uptoBulkEntries entries + 1
  | .held _ => 1
def uptoBulkAll {H : Type} : List (DataW H) → Nat
  | [] => 0
  | d :: r => uptoBulk d + uptoBulkAll r
def uptoBulkEntries {H : Type} : List (Lit × DataW H) → Nat
  | [] => 0
  | x :: r => uptoBulkEntry x + uptoBulkEntries r
def uptoBulkEntry {H : Type} : Lit × DataW H → Nat
  | (.string bytes, d) => bytes.length + uptoBulk d + 1
  | (_, d) => uptoBulk d + 1
 end
def uptoSmall : (H : Type) → List (DataW H) → Bool := fun _ ds => decide (uptoBulkAll ds ≤ 1048576)
def OpenSpec.upto (s : _root_.Go.ChangeSpec) : _root_.Go.OpenSpec := { _root_.Go.OpenSpec.ofChange s with cond := some uptoSmall }

/-- 'laws.FnExactShiftPolygon', WHERE WHAT IT READS IS OF BULK AT MOST 1048576: true; the input reads as it did. -/
def fnExactShiftPolygonUptoRow : OpenClaim := { program := "ytejnnpkfkpcnmaa", sum := "6097ae25d15c5d80037b488899a8782ddc057c73c2d0b469460498ec6418c046", func := "loop.example/g03208/laws.FnExactShiftPolygon", spec := "fnExactShiftPolygon", unfollowed := true, recurses := true, apart := false, narrowed := true }
def FnExactShiftPolygonUptoSaid : Prop := fnExactShiftPolygonUptoRow.holds Try.pinned (OpenSpec.upto fnExactShiftPolygonSpec)

/-- 'laws.FnExactStraightened', WHERE WHAT IT READS IS OF BULK AT MOST 1048576: true; the input reads as it did. -/
def fnExactStraightenedUptoRow : OpenClaim := { program := "ytejnnpkfkpcnmaa", sum := "6097ae25d15c5d80037b488899a8782ddc057c73c2d0b469460498ec6418c046", func := "loop.example/g03208/laws.FnExactStraightened", spec := "fnExactStraightened", unfollowed := true, recurses := true, apart := false, narrowed := true }
def FnExactStraightenedUptoSaid : Prop := fnExactStraightenedUptoRow.holds Try.pinned (OpenSpec.upto fnExactStraightenedSpec)

/-- 'laws.FnExactTurnPolygon', WHERE WHAT IT READS IS OF BULK AT MOST 1048576: true; the input reads as it did. -/
def fnExactTurnPolygonUptoRow : OpenClaim := { program := "ytejnnpkfkpcnmaa", sum := "6097ae25d15c5d80037b488899a8782ddc057c73c2d0b469460498ec6418c046", func := "loop.example/g03208/laws.FnExactTurnPolygon", spec := "fnExactTurnPolygon", unfollowed := true, recurses := true, apart := false, narrowed := true }
def FnExactTurnPolygonUptoSaid : Prop := fnExactTurnPolygonUptoRow.holds Try.pinned (OpenSpec.upto fnExactTurnPolygonSpec)

/-- 'laws.FnExactStartAt', WHERE WHAT IT READS IS OF BULK AT MOST 1048576: true; the input reads as it did. -/
def fnExactStartAtUptoRow : OpenClaim := { program := "ytejnnpkfkpcnmaa", sum := "6097ae25d15c5d80037b488899a8782ddc057c73c2d0b469460498ec6418c046", func := "loop.example/g03208/laws.FnExactStartAt", spec := "fnExactStartAt", unfollowed := true, recurses := true, apart := false, narrowed := true }
def FnExactStartAtUptoSaid : Prop := fnExactStartAtUptoRow.holds Try.pinned (OpenSpec.upto fnExactStartAtSpec)

/-- 'laws.FnExactInnerPoints', WHERE WHAT IT READS IS OF BULK AT MOST 1048576: true; the input reads as it did. -/
def fnExactInnerPointsUptoRow : OpenClaim := { program := "ytejnnpkfkpcnmaa", sum := "6097ae25d15c5d80037b488899a8782ddc057c73c2d0b469460498ec6418c046", func := "loop.example/g03208/laws.FnExactInnerPoints", spec := "fnExactInnerPoints", unfollowed := true, recurses := true, apart := false, narrowed := true }
def FnExactInnerPointsUptoSaid : Prop := fnExactInnerPointsUptoRow.holds Try.pinned (OpenSpec.upto fnExactInnerPointsSpec)

/-- 'laws.FnExactMovePolygon', WHERE WHAT IT READS IS OF BULK AT MOST 1048576: true; the input reads as it did. -/
def fnExactMovePolygonUptoRow : OpenClaim := { program := "ytejnnpkfkpcnmaa", sum := "6097ae25d15c5d80037b488899a8782ddc057c73c2d0b469460498ec6418c046", func := "loop.example/g03208/laws.FnExactMovePolygon", spec := "fnExactMovePolygon", unfollowed := true, recurses := true, apart := false, narrowed := true }
def FnExactMovePolygonUptoSaid : Prop := fnExactMovePolygonUptoRow.holds Try.pinned (OpenSpec.upto fnExactMovePolygonSpec)

/-- 'laws.FnExactIsOval', WHERE WHAT IT READS IS OF BULK AT MOST 1048576: true; the input reads as it did. -/
def fnExactIsOvalUptoRow : OpenClaim := { program := "ytejnnpkfkpcnmaa", sum := "6097ae25d15c5d80037b488899a8782ddc057c73c2d0b469460498ec6418c046", func := "loop.example/g03208/laws.FnExactIsOval", spec := "fnExactIsOval", unfollowed := true, recurses := true, apart := false, narrowed := true }
def FnExactIsOvalUptoSaid : Prop := fnExactIsOvalUptoRow.holds Try.pinned (OpenSpec.upto fnExactIsOvalSpec)

/-- 'laws.FnExactSamePolygon', WHERE WHAT IT READS IS OF BULK AT MOST 1048576: true; the input reads as it did. -/
def fnExactSamePolygonUptoRow : OpenClaim := { program := "ytejnnpkfkpcnmaa", sum := "6097ae25d15c5d80037b488899a8782ddc057c73c2d0b469460498ec6418c046", func := "loop.example/g03208/laws.FnExactSamePolygon", spec := "fnExactSamePolygon", unfollowed := true, recurses := true, apart := false, narrowed := true }
def FnExactSamePolygonUptoSaid : Prop := fnExactSamePolygonUptoRow.holds Try.pinned (OpenSpec.upto fnExactSamePolygonSpec)

/-- 'laws.FnExactHullGap', WHERE WHAT IT READS IS OF BULK AT MOST 1048576: true; the input reads as it did. -/
def fnExactHullGapUptoRow : OpenClaim := { program := "ytejnnpkfkpcnmaa", sum := "6097ae25d15c5d80037b488899a8782ddc057c73c2d0b469460498ec6418c046", func := "loop.example/g03208/laws.FnExactHullGap", spec := "fnExactHullGap", unfollowed := true, recurses := true, apart := false, narrowed := true }
def FnExactHullGapUptoSaid : Prop := fnExactHullGapUptoRow.holds Try.pinned (OpenSpec.upto fnExactHullGapSpec)

/-- 'laws.FnExactIsTurned', WHERE WHAT IT READS IS OF BULK AT MOST 1048576: true; the input reads as it did. -/
def fnExactIsTurnedUptoRow : OpenClaim := { program := "ytejnnpkfkpcnmaa", sum := "6097ae25d15c5d80037b488899a8782ddc057c73c2d0b469460498ec6418c046", func := "loop.example/g03208/laws.FnExactIsTurned", spec := "fnExactIsTurned", unfollowed := true, recurses := true, apart := false, narrowed := true }
def FnExactIsTurnedUptoSaid : Prop := fnExactIsTurnedUptoRow.holds Try.pinned (OpenSpec.upto fnExactIsTurnedSpec)

/-- 'laws.FnExactIsCongruent', WHERE WHAT IT READS IS OF BULK AT MOST 1048576: true; the input reads as it did. -/
def fnExactIsCongruentUptoRow : OpenClaim := { program := "ytejnnpkfkpcnmaa", sum := "6097ae25d15c5d80037b488899a8782ddc057c73c2d0b469460498ec6418c046", func := "loop.example/g03208/laws.FnExactIsCongruent", spec := "fnExactIsCongruent", unfollowed := true, recurses := true, apart := false, narrowed := true }
def FnExactIsCongruentUptoSaid : Prop := fnExactIsCongruentUptoRow.holds Try.pinned (OpenSpec.upto fnExactIsCongruentSpec)

/-- 'laws.FnExactShapeOf', WHERE WHAT IT READS IS OF BULK AT MOST 1048576: true; the input reads as it did. -/
def fnExactShapeOfUptoRow : OpenClaim := { program := "ytejnnpkfkpcnmaa", sum := "6097ae25d15c5d80037b488899a8782ddc057c73c2d0b469460498ec6418c046", func := "loop.example/g03208/laws.FnExactShapeOf", spec := "fnExactShapeOf", unfollowed := true, recurses := true, apart := false, narrowed := true }
def FnExactShapeOfUptoSaid : Prop := fnExactShapeOfUptoRow.holds Try.pinned (OpenSpec.upto fnExactShapeOfSpec)

end Rows
end Go.Proofs.Ytejnnpkfkpcnmaa
