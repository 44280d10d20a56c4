/-
  No cell of these rows narrows 'for every input' (looked for: loops, veiled, ifaces, maps, wideKeys, modest, calm, conditions, laid).
  DERIVED. THE GIVEN ROWS OF THIS SEAT. 12 by the template 'for every input the law returns true; each argument reads behind the call as it read before'; 0 by the template 'total and deterministic' (their statements: YtbhnmofbbnimaaaTotals.lean).
  GIVEN WITH THE SEED: the statements are not yours to turn. If you find one false, say at which input.
  Laid BY PROGRAM, IN A SANDBOX (cutbox-rows.mjs): the forced cells as the released guide's own fill.sh prints them over the translation 89023b2e048abed6… (all of the seat's roots in one cut). By AI agents, Wed Nov 11 2026. No macro, syntax, notation, axiom, sorry.
-/
import Derived.Test.YtbhnmofbbnimaaaChecked
import GoSem.Claim
import GoSem.ClaimJoined
import GoSem.ClaimMapViews
import Derived.JoinedTies
import Derived.KernelRfl
namespace Go.Proofs.Ytbhnmofbbnimaaa
/- THE CELL 'sum', in the pinned program and in every row, IS THE sha256 OF THE DUMP (.gsa) THAT YtbhnmofbbnimaaaProg.lean LOADS. Nothing in Lean hashes anything: it is a label: what it is worth is what the hold of that sum in a sandbox is worth. -/
noncomputable def Try.pinned : Pinned := { name := "ytbhnmofbbnimaaa", sum := "89023b2e048abed6ae7036e767b897eee82a4c116427958a615c72e0c314e2ee", checked := Try.checked }
namespace Rows
def none {H : Type} : Left H := { results := [], args := [] }

/-- 'laws.FnExactHullOf': WHATEVER THE INPUT: true; the input reads as it did. -/
def fnExactHullOfSpec : ChangeSpec := { name := "fnExactHullOf", fn := fun _ => fun
  | [d] => { results := [.lit (.bool true)], args := [d] }
  | _ => none }
def fnExactHullOfRow : OpenClaim := { program := "ytbhnmofbbnimaaa", sum := "89023b2e048abed6ae7036e767b897eee82a4c116427958a615c72e0c314e2ee", func := "loop.example/g03208/laws.FnExactHullOf", spec := "fnExactHullOf", apart := false }
def FnExactHullOfSaid : Prop := fnExactHullOfRow.holds Try.pinned (OpenSpec.ofChange fnExactHullOfSpec)

/-- ITS FALSE NEIGHBOUR: 'it returns false'. Refute it at one input. -/
def fnExactHullOfWrong : ChangeSpec := { name := "fnExactHullOf", fn := fun _ => fun
  | [d] => { results := [.lit (.bool false)], args := [d] }
  | _ => none }
def FnExactHullOfWrongFalsely : Prop := fnExactHullOfRow.holds Try.pinned (OpenSpec.ofChange fnExactHullOfWrong)

/-- 'laws.FnExactTurnPolygon': WHATEVER THE INPUT: true; the input reads as it did. -/
def fnExactTurnPolygonSpec : ChangeSpec := { name := "fnExactTurnPolygon", fn := fun _ => fun
  | [d] => { results := [.lit (.bool true)], args := [d] }
  | _ => none }
def fnExactTurnPolygonRow : OpenClaim := { program := "ytbhnmofbbnimaaa", sum := "89023b2e048abed6ae7036e767b897eee82a4c116427958a615c72e0c314e2ee", func := "loop.example/g03208/laws.FnExactTurnPolygon", spec := "fnExactTurnPolygon", unfollowed := true, recurses := true, apart := false }
def FnExactTurnPolygonSaid : Prop := fnExactTurnPolygonRow.holds Try.pinned (OpenSpec.ofChange fnExactTurnPolygonSpec)

/-- ITS FALSE NEIGHBOUR: 'it returns false'. Refute it at one input. -/
def fnExactTurnPolygonWrong : ChangeSpec := { name := "fnExactTurnPolygon", fn := fun _ => fun
  | [d] => { results := [.lit (.bool false)], args := [d] }
  | _ => none }
def FnExactTurnPolygonWrongFalsely : Prop := fnExactTurnPolygonRow.holds Try.pinned (OpenSpec.ofChange fnExactTurnPolygonWrong)

/-- 'laws.FnExactStartAt': WHATEVER THE INPUT: true; the input reads as it did. -/
def fnExactStartAtSpec : ChangeSpec := { name := "fnExactStartAt", fn := fun _ => fun
  | [d1, d2] => { results := [.lit (.bool true)], args := [d1, d2] }
  | _ => none }
def fnExactStartAtRow : OpenClaim := { program := "ytbhnmofbbnimaaa", sum := "89023b2e048abed6ae7036e767b897eee82a4c116427958a615c72e0c314e2ee", func := "loop.example/g03208/laws.FnExactStartAt", spec := "fnExactStartAt", unfollowed := true, recurses := true, apart := false }
def FnExactStartAtSaid : Prop := fnExactStartAtRow.holds Try.pinned (OpenSpec.ofChange fnExactStartAtSpec)

/-- ITS FALSE NEIGHBOUR: 'it returns false'. Refute it at one input. -/
def fnExactStartAtWrong : ChangeSpec := { name := "fnExactStartAt", fn := fun _ => fun
  | [d1, d2] => { results := [.lit (.bool false)], args := [d1, d2] }
  | _ => none }
def FnExactStartAtWrongFalsely : Prop := fnExactStartAtRow.holds Try.pinned (OpenSpec.ofChange fnExactStartAtWrong)

/-- 'laws.FnExactInnerPoints': WHATEVER THE INPUT: true; the input reads as it did. -/
def fnExactInnerPointsSpec : ChangeSpec := { name := "fnExactInnerPoints", fn := fun _ => fun
  | [d] => { results := [.lit (.bool true)], args := [d] }
  | _ => none }
def fnExactInnerPointsRow : OpenClaim := { program := "ytbhnmofbbnimaaa", sum := "89023b2e048abed6ae7036e767b897eee82a4c116427958a615c72e0c314e2ee", func := "loop.example/g03208/laws.FnExactInnerPoints", spec := "fnExactInnerPoints", unfollowed := true, recurses := true, apart := false }
def FnExactInnerPointsSaid : Prop := fnExactInnerPointsRow.holds Try.pinned (OpenSpec.ofChange fnExactInnerPointsSpec)

/-- ITS FALSE NEIGHBOUR: 'it returns false'. Refute it at one input. -/
def fnExactInnerPointsWrong : ChangeSpec := { name := "fnExactInnerPoints", fn := fun _ => fun
  | [d] => { results := [.lit (.bool false)], args := [d] }
  | _ => none }
def FnExactInnerPointsWrongFalsely : Prop := fnExactInnerPointsRow.holds Try.pinned (OpenSpec.ofChange fnExactInnerPointsWrong)

/-- 'laws.FnExactIsOval': WHATEVER THE INPUT: true; the input reads as it did. -/
def fnExactIsOvalSpec : ChangeSpec := { name := "fnExactIsOval", fn := fun _ => fun
  | [d] => { results := [.lit (.bool true)], args := [d] }
  | _ => none }
def fnExactIsOvalRow : OpenClaim := { program := "ytbhnmofbbnimaaa", sum := "89023b2e048abed6ae7036e767b897eee82a4c116427958a615c72e0c314e2ee", func := "loop.example/g03208/laws.FnExactIsOval", spec := "fnExactIsOval", unfollowed := true, recurses := true, apart := false }
def FnExactIsOvalSaid : Prop := fnExactIsOvalRow.holds Try.pinned (OpenSpec.ofChange fnExactIsOvalSpec)

/-- ITS FALSE NEIGHBOUR: 'it returns false'. Refute it at one input. -/
def fnExactIsOvalWrong : ChangeSpec := { name := "fnExactIsOval", fn := fun _ => fun
  | [d] => { results := [.lit (.bool false)], args := [d] }
  | _ => none }
def FnExactIsOvalWrongFalsely : Prop := fnExactIsOvalRow.holds Try.pinned (OpenSpec.ofChange fnExactIsOvalWrong)

/-- 'laws.FnExactSamePolygon': WHATEVER THE INPUT: true; the input reads as it did. -/
def fnExactSamePolygonSpec : ChangeSpec := { name := "fnExactSamePolygon", fn := fun _ => fun
  | [d1, d2] => { results := [.lit (.bool true)], args := [d1, d2] }
  | _ => none }
def fnExactSamePolygonRow : OpenClaim := { program := "ytbhnmofbbnimaaa", sum := "89023b2e048abed6ae7036e767b897eee82a4c116427958a615c72e0c314e2ee", func := "loop.example/g03208/laws.FnExactSamePolygon", spec := "fnExactSamePolygon", unfollowed := true, recurses := true, apart := false }
def FnExactSamePolygonSaid : Prop := fnExactSamePolygonRow.holds Try.pinned (OpenSpec.ofChange fnExactSamePolygonSpec)

/-- ITS FALSE NEIGHBOUR: 'it returns false'. Refute it at one input. -/
def fnExactSamePolygonWrong : ChangeSpec := { name := "fnExactSamePolygon", fn := fun _ => fun
  | [d1, d2] => { results := [.lit (.bool false)], args := [d1, d2] }
  | _ => none }
def FnExactSamePolygonWrongFalsely : Prop := fnExactSamePolygonRow.holds Try.pinned (OpenSpec.ofChange fnExactSamePolygonWrong)

/-- 'laws.FnExactHullGap': WHATEVER THE INPUT: true; the input reads as it did. -/
def fnExactHullGapSpec : ChangeSpec := { name := "fnExactHullGap", fn := fun _ => fun
  | [d] => { results := [.lit (.bool true)], args := [d] }
  | _ => none }
def fnExactHullGapRow : OpenClaim := { program := "ytbhnmofbbnimaaa", sum := "89023b2e048abed6ae7036e767b897eee82a4c116427958a615c72e0c314e2ee", func := "loop.example/g03208/laws.FnExactHullGap", spec := "fnExactHullGap", unfollowed := true, recurses := true, apart := false }
def FnExactHullGapSaid : Prop := fnExactHullGapRow.holds Try.pinned (OpenSpec.ofChange fnExactHullGapSpec)

/-- ITS FALSE NEIGHBOUR: 'it returns false'. Refute it at one input. -/
def fnExactHullGapWrong : ChangeSpec := { name := "fnExactHullGap", fn := fun _ => fun
  | [d] => { results := [.lit (.bool false)], args := [d] }
  | _ => none }
def FnExactHullGapWrongFalsely : Prop := fnExactHullGapRow.holds Try.pinned (OpenSpec.ofChange fnExactHullGapWrong)

/-- 'laws.FnExactIsTurned': WHATEVER THE INPUT: true; the input reads as it did. -/
def fnExactIsTurnedSpec : ChangeSpec := { name := "fnExactIsTurned", fn := fun _ => fun
  | [d1, d2, d3] => { results := [.lit (.bool true)], args := [d1, d2, d3] }
  | _ => none }
def fnExactIsTurnedRow : OpenClaim := { program := "ytbhnmofbbnimaaa", sum := "89023b2e048abed6ae7036e767b897eee82a4c116427958a615c72e0c314e2ee", func := "loop.example/g03208/laws.FnExactIsTurned", spec := "fnExactIsTurned", unfollowed := true, recurses := true, apart := false }
def FnExactIsTurnedSaid : Prop := fnExactIsTurnedRow.holds Try.pinned (OpenSpec.ofChange fnExactIsTurnedSpec)

/-- ITS FALSE NEIGHBOUR: 'it returns false'. Refute it at one input. -/
def fnExactIsTurnedWrong : ChangeSpec := { name := "fnExactIsTurned", fn := fun _ => fun
  | [d1, d2, d3] => { results := [.lit (.bool false)], args := [d1, d2, d3] }
  | _ => none }
def FnExactIsTurnedWrongFalsely : Prop := fnExactIsTurnedRow.holds Try.pinned (OpenSpec.ofChange fnExactIsTurnedWrong)

/-- 'laws.FnExactIsCongruent': WHATEVER THE INPUT: true; the input reads as it did. -/
def fnExactIsCongruentSpec : ChangeSpec := { name := "fnExactIsCongruent", fn := fun _ => fun
  | [d1, d2] => { results := [.lit (.bool true)], args := [d1, d2] }
  | _ => none }
def fnExactIsCongruentRow : OpenClaim := { program := "ytbhnmofbbnimaaa", sum := "89023b2e048abed6ae7036e767b897eee82a4c116427958a615c72e0c314e2ee", func := "loop.example/g03208/laws.FnExactIsCongruent", spec := "fnExactIsCongruent", unfollowed := true, recurses := true, apart := false }
def FnExactIsCongruentSaid : Prop := fnExactIsCongruentRow.holds Try.pinned (OpenSpec.ofChange fnExactIsCongruentSpec)

/-- ITS FALSE NEIGHBOUR: 'it returns false'. Refute it at one input. -/
def fnExactIsCongruentWrong : ChangeSpec := { name := "fnExactIsCongruent", fn := fun _ => fun
  | [d1, d2] => { results := [.lit (.bool false)], args := [d1, d2] }
  | _ => none }
def FnExactIsCongruentWrongFalsely : Prop := fnExactIsCongruentRow.holds Try.pinned (OpenSpec.ofChange fnExactIsCongruentWrong)

/-- 'laws.FnExactShapeOf': WHATEVER THE INPUT: true; the input reads as it did. -/
def fnExactShapeOfSpec : ChangeSpec := { name := "fnExactShapeOf", fn := fun _ => fun
  | [d] => { results := [.lit (.bool true)], args := [d] }
  | _ => none }
def fnExactShapeOfRow : OpenClaim := { program := "ytbhnmofbbnimaaa", sum := "89023b2e048abed6ae7036e767b897eee82a4c116427958a615c72e0c314e2ee", func := "loop.example/g03208/laws.FnExactShapeOf", spec := "fnExactShapeOf", unfollowed := true, recurses := true, apart := false }
def FnExactShapeOfSaid : Prop := fnExactShapeOfRow.holds Try.pinned (OpenSpec.ofChange fnExactShapeOfSpec)

/-- ITS FALSE NEIGHBOUR: 'it returns false'. Refute it at one input. -/
def fnExactShapeOfWrong : ChangeSpec := { name := "fnExactShapeOf", fn := fun _ => fun
  | [d] => { results := [.lit (.bool false)], args := [d] }
  | _ => none }
def FnExactShapeOfWrongFalsely : Prop := fnExactShapeOfRow.holds Try.pinned (OpenSpec.ofChange fnExactShapeOfWrong)

/-- 'laws.FnExactComposeMotions': WHATEVER THE INPUT: true; the input reads as it did. -/
def fnExactComposeMotionsSpec : ChangeSpec := { name := "fnExactComposeMotions", fn := fun _ => fun
  | [d1, d2] => { results := [.lit (.bool true)], args := [d1, d2] }
  | _ => none }
def fnExactComposeMotionsRow : OpenClaim := { program := "ytbhnmofbbnimaaa", sum := "89023b2e048abed6ae7036e767b897eee82a4c116427958a615c72e0c314e2ee", func := "loop.example/g03208/laws.FnExactComposeMotions", spec := "fnExactComposeMotions", unfollowed := true, recurses := true, apart := false }
def FnExactComposeMotionsSaid : Prop := fnExactComposeMotionsRow.holds Try.pinned (OpenSpec.ofChange fnExactComposeMotionsSpec)

/-- ITS FALSE NEIGHBOUR: 'it returns false'. Refute it at one input. -/
def fnExactComposeMotionsWrong : ChangeSpec := { name := "fnExactComposeMotions", fn := fun _ => fun
  | [d1, d2] => { results := [.lit (.bool false)], args := [d1, d2] }
  | _ => none }
def FnExactComposeMotionsWrongFalsely : Prop := fnExactComposeMotionsRow.holds Try.pinned (OpenSpec.ofChange fnExactComposeMotionsWrong)

/-- 'laws.FnExactInverseMotion': WHATEVER THE INPUT: true; the input reads as it did. -/
def fnExactInverseMotionSpec : ChangeSpec := { name := "fnExactInverseMotion", fn := fun _ => fun
  | [d] => { results := [.lit (.bool true)], args := [d] }
  | _ => none }
def fnExactInverseMotionRow : OpenClaim := { program := "ytbhnmofbbnimaaa", sum := "89023b2e048abed6ae7036e767b897eee82a4c116427958a615c72e0c314e2ee", func := "loop.example/g03208/laws.FnExactInverseMotion", spec := "fnExactInverseMotion", unfollowed := true, recurses := true, apart := false }
def FnExactInverseMotionSaid : Prop := fnExactInverseMotionRow.holds Try.pinned (OpenSpec.ofChange fnExactInverseMotionSpec)

/-- ITS FALSE NEIGHBOUR: 'it returns false'. Refute it at one input. -/
def fnExactInverseMotionWrong : ChangeSpec := { name := "fnExactInverseMotion", fn := fun _ => fun
  | [d] => { results := [.lit (.bool false)], args := [d] }
  | _ => none }
def FnExactInverseMotionWrongFalsely : Prop := fnExactInverseMotionRow.holds Try.pinned (OpenSpec.ofChange fnExactInverseMotionWrong)

/- THE SECOND FORM. 'bulk': how many values and letters a reading holds, each counted each time it is reached (what is shared counts as often as it is met; a slice's spare places count too). A statement '..UptoSaid' is the law's where the arguments, and the package variables that the reading takes, are together of bulk at most 1048576: NARROWER than '..Said'. Prove '..Said' where nothing that the law and all that it calls make is longer than what came in: it says more and counts as full. Else prove '..UptoSaid'. A law counts once. -/
mutual
def uptoBulk {H : Type} : DataW H → Nat
  | .lit (.string bytes) => bytes.length + 1
  | .lit _ => 1
  | .nil => 1
  | .ptr d => uptoBulk d + 1
  | .slice elems spare => uptoBulkAll elems + uptoBulkAll spare + 1
  | .agg parts => uptoBulkAll parts + 1
  | .iface _ d => uptoBulk d + 1
  | .map entries => uptoBulkEntries entries + 1
  | .held _ => 1
def uptoBulkAll {H : Type} : List (DataW H) → Nat
  | [] => 0
  | d :: r => uptoBulk d + uptoBulkAll r
def uptoBulkEntries {H : Type} : List (Lit × DataW H) → Nat
  | [] => 0
  | x :: r => uptoBulkEntry x + uptoBulkEntries r
def uptoBulkEntry {H : Type} : Lit × DataW H → Nat
  | (.string bytes, d) => bytes.length + uptoBulk d + 1
  | (_, d) => uptoBulk d + 1
 end
def uptoSmall : (H : Type) → List (DataW H) → Bool := fun _ ds => decide (uptoBulkAll ds ≤ 1048576)
def OpenSpec.upto (s : _root_.Go.ChangeSpec) : _root_.Go.OpenSpec := { _root_.Go.OpenSpec.ofChange s with cond := some uptoSmall }

/-- 'laws.FnExactHullOf', WHERE WHAT IT READS IS OF BULK AT MOST 1048576: true; the input reads as it did. -/
def fnExactHullOfUptoRow : OpenClaim := { program := "ytbhnmofbbnimaaa", sum := "89023b2e048abed6ae7036e767b897eee82a4c116427958a615c72e0c314e2ee", func := "loop.example/g03208/laws.FnExactHullOf", spec := "fnExactHullOf", apart := false, narrowed := true }
def FnExactHullOfUptoSaid : Prop := fnExactHullOfUptoRow.holds Try.pinned (OpenSpec.upto fnExactHullOfSpec)

/-- 'laws.FnExactTurnPolygon', WHERE WHAT IT READS IS OF BULK AT MOST 1048576: true; the input reads as it did. -/
def fnExactTurnPolygonUptoRow : OpenClaim := { program := "ytbhnmofbbnimaaa", sum := "89023b2e048abed6ae7036e767b897eee82a4c116427958a615c72e0c314e2ee", func := "loop.example/g03208/laws.FnExactTurnPolygon", spec := "fnExactTurnPolygon", unfollowed := true, recurses := true, apart := false, narrowed := true }
def FnExactTurnPolygonUptoSaid : Prop := fnExactTurnPolygonUptoRow.holds Try.pinned (OpenSpec.upto fnExactTurnPolygonSpec)

/-- 'laws.FnExactStartAt', WHERE WHAT IT READS IS OF BULK AT MOST 1048576: true; the input reads as it did. -/
def fnExactStartAtUptoRow : OpenClaim := { program := "ytbhnmofbbnimaaa", sum := "89023b2e048abed6ae7036e767b897eee82a4c116427958a615c72e0c314e2ee", func := "loop.example/g03208/laws.FnExactStartAt", spec := "fnExactStartAt", unfollowed := true, recurses := true, apart := false, narrowed := true }
def FnExactStartAtUptoSaid : Prop := fnExactStartAtUptoRow.holds Try.pinned (OpenSpec.upto fnExactStartAtSpec)

/-- 'laws.FnExactInnerPoints', WHERE WHAT IT READS IS OF BULK AT MOST 1048576: true; the input reads as it did. -/
def fnExactInnerPointsUptoRow : OpenClaim := { program := "ytbhnmofbbnimaaa", sum := "89023b2e048abed6ae7036e767b897eee82a4c116427958a615c72e0c314e2ee", func := "loop.example/g03208/laws.FnExactInnerPoints", spec := "fnExactInnerPoints", unfollowed := true, recurses := true, apart := false, narrowed := true }
def FnExactInnerPointsUptoSaid : Prop := fnExactInnerPointsUptoRow.holds Try.pinned (OpenSpec.upto fnExactInnerPointsSpec)

/-- 'laws.FnExactIsOval', WHERE WHAT IT READS IS OF BULK AT MOST 1048576: true; the input reads as it did. -/
def fnExactIsOvalUptoRow : OpenClaim := { program := "ytbhnmofbbnimaaa", sum := "89023b2e048abed6ae7036e767b897eee82a4c116427958a615c72e0c314e2ee", func := "loop.example/g03208/laws.FnExactIsOval", spec := "fnExactIsOval", unfollowed := true, recurses := true, apart := false, narrowed := true }
def FnExactIsOvalUptoSaid : Prop := fnExactIsOvalUptoRow.holds Try.pinned (OpenSpec.upto fnExactIsOvalSpec)

/-- 'laws.FnExactSamePolygon', WHERE WHAT IT READS IS OF BULK AT MOST 1048576: true; the input reads as it did. -/
def fnExactSamePolygonUptoRow : OpenClaim := { program := "ytbhnmofbbnimaaa", sum := "89023b2e048abed6ae7036e767b897eee82a4c116427958a615c72e0c314e2ee", func := "loop.example/g03208/laws.FnExactSamePolygon", spec := "fnExactSamePolygon", unfollowed := true, recurses := true, apart := false, narrowed := true }
def FnExactSamePolygonUptoSaid : Prop := fnExactSamePolygonUptoRow.holds Try.pinned (OpenSpec.upto fnExactSamePolygonSpec)

/-- 'laws.FnExactHullGap', WHERE WHAT IT READS IS OF BULK AT MOST 1048576: true; the input reads as it did. -/
def fnExactHullGapUptoRow : OpenClaim := { program := "ytbhnmofbbnimaaa", sum := "89023b2e048abed6ae7036e767b897eee82a4c116427958a615c72e0c314e2ee", func := "loop.example/g03208/laws.FnExactHullGap", spec := "fnExactHullGap", unfollowed := true, recurses := true, apart := false, narrowed := true }
def FnExactHullGapUptoSaid : Prop := fnExactHullGapUptoRow.holds Try.pinned (OpenSpec.upto fnExactHullGapSpec)

/-- 'laws.FnExactIsTurned', WHERE WHAT IT READS IS OF BULK AT MOST 1048576: true; the input reads as it did. -/
def fnExactIsTurnedUptoRow : OpenClaim := { program := "ytbhnmofbbnimaaa", sum := "89023b2e048abed6ae7036e767b897eee82a4c116427958a615c72e0c314e2ee", func := "loop.example/g03208/laws.FnExactIsTurned", spec := "fnExactIsTurned", unfollowed := true, recurses := true, apart := false, narrowed := true }
def FnExactIsTurnedUptoSaid : Prop := fnExactIsTurnedUptoRow.holds Try.pinned (OpenSpec.upto fnExactIsTurnedSpec)

/-- 'laws.FnExactIsCongruent', WHERE WHAT IT READS IS OF BULK AT MOST 1048576: true; the input reads as it did. -/
def fnExactIsCongruentUptoRow : OpenClaim := { program := "ytbhnmofbbnimaaa", sum := "89023b2e048abed6ae7036e767b897eee82a4c116427958a615c72e0c314e2ee", func := "loop.example/g03208/laws.FnExactIsCongruent", spec := "fnExactIsCongruent", unfollowed := true, recurses := true, apart := false, narrowed := true }
def FnExactIsCongruentUptoSaid : Prop := fnExactIsCongruentUptoRow.holds Try.pinned (OpenSpec.upto fnExactIsCongruentSpec)

/-- 'laws.FnExactShapeOf', WHERE WHAT IT READS IS OF BULK AT MOST 1048576: true; the input reads as it did. -/
def fnExactShapeOfUptoRow : OpenClaim := { program := "ytbhnmofbbnimaaa", sum := "89023b2e048abed6ae7036e767b897eee82a4c116427958a615c72e0c314e2ee", func := "loop.example/g03208/laws.FnExactShapeOf", spec := "fnExactShapeOf", unfollowed := true, recurses := true, apart := false, narrowed := true }
def FnExactShapeOfUptoSaid : Prop := fnExactShapeOfUptoRow.holds Try.pinned (OpenSpec.upto fnExactShapeOfSpec)

/-- 'laws.FnExactComposeMotions', WHERE WHAT IT READS IS OF BULK AT MOST 1048576: true; the input reads as it did. -/
def fnExactComposeMotionsUptoRow : OpenClaim := { program := "ytbhnmofbbnimaaa", sum := "89023b2e048abed6ae7036e767b897eee82a4c116427958a615c72e0c314e2ee", func := "loop.example/g03208/laws.FnExactComposeMotions", spec := "fnExactComposeMotions", unfollowed := true, recurses := true, apart := false, narrowed := true }
def FnExactComposeMotionsUptoSaid : Prop := fnExactComposeMotionsUptoRow.holds Try.pinned (OpenSpec.upto fnExactComposeMotionsSpec)

/-- 'laws.FnExactInverseMotion', WHERE WHAT IT READS IS OF BULK AT MOST 1048576: true; the input reads as it did. -/
def fnExactInverseMotionUptoRow : OpenClaim := { program := "ytbhnmofbbnimaaa", sum := "89023b2e048abed6ae7036e767b897eee82a4c116427958a615c72e0c314e2ee", func := "loop.example/g03208/laws.FnExactInverseMotion", spec := "fnExactInverseMotion", unfollowed := true, recurses := true, apart := false, narrowed := true }
def FnExactInverseMotionUptoSaid : Prop := fnExactInverseMotionUptoRow.holds Try.pinned (OpenSpec.upto fnExactInverseMotionSpec)

end Rows
end Go.Proofs.Ytbhnmofbbnimaaa
