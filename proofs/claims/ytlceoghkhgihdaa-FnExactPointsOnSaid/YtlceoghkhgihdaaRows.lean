/-
  No cell of these rows narrows 'for every input' (looked for: loops, veiled, ifaces, maps, wideKeys, modest, calm, conditions, laid).
  DERIVED. THE GIVEN ROWS OF THIS SEAT. 12 by the template 'for every input the law returns true; each argument reads behind the call as it read before'; 0 by the template 'total and deterministic' (their statements: YtlceoghkhgihdaaTotals.lean).
  GIVEN WITH THE SEED: the statements are not yours to turn. If you find one false, say at which input.
  Laid BY PROGRAM, IN A SANDBOX (cutbox-rows.mjs): the forced cells as the released guide's own fill.sh prints them over the translation 7a479d6b3362f01b… (all of the seat's roots in one cut). By AI agents, Wed Nov 11 2026. No macro, syntax, notation, axiom, sorry.
-/
import Derived.Test.YtlceoghkhgihdaaChecked
import GoSem.Claim
import GoSem.ClaimJoined
import GoSem.ClaimMapViews
import Derived.JoinedTies
import Derived.KernelRfl
namespace Go.Proofs.Ytlceoghkhgihdaa
/- THE CELL 'sum', in the pinned program and in every row, IS THE sha256 OF THE DUMP (.gsa) THAT YtlceoghkhgihdaaProg.lean LOADS. Nothing in Lean hashes anything: it is a label: what it is worth is what the hold of that sum in a sandbox is worth. -/
noncomputable def Try.pinned : Pinned := { name := "ytlceoghkhgihdaa", sum := "7a479d6b3362f01b6cf13c9d0501fed9eebb0a42ae5a00d8d546fb81a724a3d7", checked := Try.checked }
namespace Rows
def none {H : Type} : Left H := { results := [], args := [] }

/-- 'laws.FnExactPointsOn': WHATEVER THE INPUT: true; the input reads as it did. -/
def fnExactPointsOnSpec : ChangeSpec := { name := "fnExactPointsOn", fn := fun _ => fun
  | [d1, d2] => { results := [.lit (.bool true)], args := [d1, d2] }
  | _ => none }
def fnExactPointsOnRow : OpenClaim := { program := "ytlceoghkhgihdaa", sum := "7a479d6b3362f01b6cf13c9d0501fed9eebb0a42ae5a00d8d546fb81a724a3d7", func := "loop.example/g03208/laws.FnExactPointsOn", spec := "fnExactPointsOn", apart := false }
def FnExactPointsOnSaid : Prop := fnExactPointsOnRow.holds Try.pinned (OpenSpec.ofChange fnExactPointsOnSpec)

/-- ITS FALSE NEIGHBOUR: 'it returns false'. Refute it at one input. -/
def fnExactPointsOnWrong : ChangeSpec := { name := "fnExactPointsOn", fn := fun _ => fun
  | [d1, d2] => { results := [.lit (.bool false)], args := [d1, d2] }
  | _ => none }
def FnExactPointsOnWrongFalsely : Prop := fnExactPointsOnRow.holds Try.pinned (OpenSpec.ofChange fnExactPointsOnWrong)

/-- 'laws.FnExactHowMeet': WHATEVER THE INPUT: true; the input reads as it did. -/
def fnExactHowMeetSpec : ChangeSpec := { name := "fnExactHowMeet", fn := fun _ => fun
  | [d1, d2, d3, d4] => { results := [.lit (.bool true)], args := [d1, d2, d3, d4] }
  | _ => none }
def fnExactHowMeetRow : OpenClaim := { program := "ytlceoghkhgihdaa", sum := "7a479d6b3362f01b6cf13c9d0501fed9eebb0a42ae5a00d8d546fb81a724a3d7", func := "loop.example/g03208/laws.FnExactHowMeet", spec := "fnExactHowMeet", unfollowed := true, recurses := true, apart := false }
def FnExactHowMeetSaid : Prop := fnExactHowMeetRow.holds Try.pinned (OpenSpec.ofChange fnExactHowMeetSpec)

/-- ITS FALSE NEIGHBOUR: 'it returns false'. Refute it at one input. -/
def fnExactHowMeetWrong : ChangeSpec := { name := "fnExactHowMeet", fn := fun _ => fun
  | [d1, d2, d3, d4] => { results := [.lit (.bool false)], args := [d1, d2, d3, d4] }
  | _ => none }
def FnExactHowMeetWrongFalsely : Prop := fnExactHowMeetRow.holds Try.pinned (OpenSpec.ofChange fnExactHowMeetWrong)

/-- 'laws.FnExactPolygonOk': WHATEVER THE INPUT: true; the input reads as it did. -/
def fnExactPolygonOkSpec : ChangeSpec := { name := "fnExactPolygonOk", fn := fun _ => fun
  | [d] => { results := [.lit (.bool true)], args := [d] }
  | _ => none }
def fnExactPolygonOkRow : OpenClaim := { program := "ytlceoghkhgihdaa", sum := "7a479d6b3362f01b6cf13c9d0501fed9eebb0a42ae5a00d8d546fb81a724a3d7", func := "loop.example/g03208/laws.FnExactPolygonOk", spec := "fnExactPolygonOk", unfollowed := true, recurses := true, apart := false }
def FnExactPolygonOkSaid : Prop := fnExactPolygonOkRow.holds Try.pinned (OpenSpec.ofChange fnExactPolygonOkSpec)

/-- ITS FALSE NEIGHBOUR: 'it returns false'. Refute it at one input. -/
def fnExactPolygonOkWrong : ChangeSpec := { name := "fnExactPolygonOk", fn := fun _ => fun
  | [d] => { results := [.lit (.bool false)], args := [d] }
  | _ => none }
def FnExactPolygonOkWrongFalsely : Prop := fnExactPolygonOkRow.holds Try.pinned (OpenSpec.ofChange fnExactPolygonOkWrong)

/-- 'laws.FnExactHullOf': WHATEVER THE INPUT: true; the input reads as it did. -/
def fnExactHullOfSpec : ChangeSpec := { name := "fnExactHullOf", fn := fun _ => fun
  | [d] => { results := [.lit (.bool true)], args := [d] }
  | _ => none }
def fnExactHullOfRow : OpenClaim := { program := "ytlceoghkhgihdaa", sum := "7a479d6b3362f01b6cf13c9d0501fed9eebb0a42ae5a00d8d546fb81a724a3d7", func := "loop.example/g03208/laws.FnExactHullOf", spec := "fnExactHullOf", apart := false }
def FnExactHullOfSaid : Prop := fnExactHullOfRow.holds Try.pinned (OpenSpec.ofChange fnExactHullOfSpec)

/-- ITS FALSE NEIGHBOUR: 'it returns false'. Refute it at one input. -/
def fnExactHullOfWrong : ChangeSpec := { name := "fnExactHullOf", fn := fun _ => fun
  | [d] => { results := [.lit (.bool false)], args := [d] }
  | _ => none }
def FnExactHullOfWrongFalsely : Prop := fnExactHullOfRow.holds Try.pinned (OpenSpec.ofChange fnExactHullOfWrong)

/-- 'laws.FnExactIsConvex': WHATEVER THE INPUT: true; the input reads as it did. -/
def fnExactIsConvexSpec : ChangeSpec := { name := "fnExactIsConvex", fn := fun _ => fun
  | [d] => { results := [.lit (.bool true)], args := [d] }
  | _ => none }
def fnExactIsConvexRow : OpenClaim := { program := "ytlceoghkhgihdaa", sum := "7a479d6b3362f01b6cf13c9d0501fed9eebb0a42ae5a00d8d546fb81a724a3d7", func := "loop.example/g03208/laws.FnExactIsConvex", spec := "fnExactIsConvex", unfollowed := true, recurses := true, apart := false }
def FnExactIsConvexSaid : Prop := fnExactIsConvexRow.holds Try.pinned (OpenSpec.ofChange fnExactIsConvexSpec)

/-- ITS FALSE NEIGHBOUR: 'it returns false'. Refute it at one input. -/
def fnExactIsConvexWrong : ChangeSpec := { name := "fnExactIsConvex", fn := fun _ => fun
  | [d] => { results := [.lit (.bool false)], args := [d] }
  | _ => none }
def FnExactIsConvexWrongFalsely : Prop := fnExactIsConvexRow.holds Try.pinned (OpenSpec.ofChange fnExactIsConvexWrong)

/-- 'laws.FnExactSupports': WHATEVER THE INPUT: true; the input reads as it did. -/
def fnExactSupportsSpec : ChangeSpec := { name := "fnExactSupports", fn := fun _ => fun
  | [d1, d2, d3] => { results := [.lit (.bool true)], args := [d1, d2, d3] }
  | _ => none }
def fnExactSupportsRow : OpenClaim := { program := "ytlceoghkhgihdaa", sum := "7a479d6b3362f01b6cf13c9d0501fed9eebb0a42ae5a00d8d546fb81a724a3d7", func := "loop.example/g03208/laws.FnExactSupports", spec := "fnExactSupports", unfollowed := true, recurses := true, apart := false }
def FnExactSupportsSaid : Prop := fnExactSupportsRow.holds Try.pinned (OpenSpec.ofChange fnExactSupportsSpec)

/-- ITS FALSE NEIGHBOUR: 'it returns false'. Refute it at one input. -/
def fnExactSupportsWrong : ChangeSpec := { name := "fnExactSupports", fn := fun _ => fun
  | [d1, d2, d3] => { results := [.lit (.bool false)], args := [d1, d2, d3] }
  | _ => none }
def FnExactSupportsWrongFalsely : Prop := fnExactSupportsRow.holds Try.pinned (OpenSpec.ofChange fnExactSupportsWrong)

/-- 'laws.FnExactBoxOf': WHATEVER THE INPUT: true; the input reads as it did. -/
def fnExactBoxOfSpec : ChangeSpec := { name := "fnExactBoxOf", fn := fun _ => fun
  | [d] => { results := [.lit (.bool true)], args := [d] }
  | _ => none }
def fnExactBoxOfRow : OpenClaim := { program := "ytlceoghkhgihdaa", sum := "7a479d6b3362f01b6cf13c9d0501fed9eebb0a42ae5a00d8d546fb81a724a3d7", func := "loop.example/g03208/laws.FnExactBoxOf", spec := "fnExactBoxOf", unfollowed := true, recurses := true, apart := false }
def FnExactBoxOfSaid : Prop := fnExactBoxOfRow.holds Try.pinned (OpenSpec.ofChange fnExactBoxOfSpec)

/-- ITS FALSE NEIGHBOUR: 'it returns false'. Refute it at one input. -/
def fnExactBoxOfWrong : ChangeSpec := { name := "fnExactBoxOf", fn := fun _ => fun
  | [d] => { results := [.lit (.bool false)], args := [d] }
  | _ => none }
def FnExactBoxOfWrongFalsely : Prop := fnExactBoxOfRow.holds Try.pinned (OpenSpec.ofChange fnExactBoxOfWrong)

/-- 'laws.FnExactTwiceArea': WHATEVER THE INPUT: true; the input reads as it did. -/
def fnExactTwiceAreaSpec : ChangeSpec := { name := "fnExactTwiceArea", fn := fun _ => fun
  | [d] => { results := [.lit (.bool true)], args := [d] }
  | _ => none }
def fnExactTwiceAreaRow : OpenClaim := { program := "ytlceoghkhgihdaa", sum := "7a479d6b3362f01b6cf13c9d0501fed9eebb0a42ae5a00d8d546fb81a724a3d7", func := "loop.example/g03208/laws.FnExactTwiceArea", spec := "fnExactTwiceArea", unfollowed := true, recurses := true, apart := false }
def FnExactTwiceAreaSaid : Prop := fnExactTwiceAreaRow.holds Try.pinned (OpenSpec.ofChange fnExactTwiceAreaSpec)

/-- ITS FALSE NEIGHBOUR: 'it returns false'. Refute it at one input. -/
def fnExactTwiceAreaWrong : ChangeSpec := { name := "fnExactTwiceArea", fn := fun _ => fun
  | [d] => { results := [.lit (.bool false)], args := [d] }
  | _ => none }
def FnExactTwiceAreaWrongFalsely : Prop := fnExactTwiceAreaRow.holds Try.pinned (OpenSpec.ofChange fnExactTwiceAreaWrong)

/-- 'laws.FnExactSideCount': WHATEVER THE INPUT: true; the input reads as it did. -/
def fnExactSideCountSpec : ChangeSpec := { name := "fnExactSideCount", fn := fun _ => fun
  | [d] => { results := [.lit (.bool true)], args := [d] }
  | _ => none }
def fnExactSideCountRow : OpenClaim := { program := "ytlceoghkhgihdaa", sum := "7a479d6b3362f01b6cf13c9d0501fed9eebb0a42ae5a00d8d546fb81a724a3d7", func := "loop.example/g03208/laws.FnExactSideCount", spec := "fnExactSideCount", unfollowed := true, recurses := true, apart := false }
def FnExactSideCountSaid : Prop := fnExactSideCountRow.holds Try.pinned (OpenSpec.ofChange fnExactSideCountSpec)

/-- ITS FALSE NEIGHBOUR: 'it returns false'. Refute it at one input. -/
def fnExactSideCountWrong : ChangeSpec := { name := "fnExactSideCount", fn := fun _ => fun
  | [d] => { results := [.lit (.bool false)], args := [d] }
  | _ => none }
def FnExactSideCountWrongFalsely : Prop := fnExactSideCountRow.holds Try.pinned (OpenSpec.ofChange fnExactSideCountWrong)

/-- 'laws.FnExactWidestPair': WHATEVER THE INPUT: true; the input reads as it did. -/
def fnExactWidestPairSpec : ChangeSpec := { name := "fnExactWidestPair", fn := fun _ => fun
  | [d] => { results := [.lit (.bool true)], args := [d] }
  | _ => none }
def fnExactWidestPairRow : OpenClaim := { program := "ytlceoghkhgihdaa", sum := "7a479d6b3362f01b6cf13c9d0501fed9eebb0a42ae5a00d8d546fb81a724a3d7", func := "loop.example/g03208/laws.FnExactWidestPair", spec := "fnExactWidestPair", unfollowed := true, recurses := true, apart := false }
def FnExactWidestPairSaid : Prop := fnExactWidestPairRow.holds Try.pinned (OpenSpec.ofChange fnExactWidestPairSpec)

/-- ITS FALSE NEIGHBOUR: 'it returns false'. Refute it at one input. -/
def fnExactWidestPairWrong : ChangeSpec := { name := "fnExactWidestPair", fn := fun _ => fun
  | [d] => { results := [.lit (.bool false)], args := [d] }
  | _ => none }
def FnExactWidestPairWrongFalsely : Prop := fnExactWidestPairRow.holds Try.pinned (OpenSpec.ofChange fnExactWidestPairWrong)

/-- 'laws.FnExactIsInside': WHATEVER THE INPUT: true; the input reads as it did. -/
def fnExactIsInsideSpec : ChangeSpec := { name := "fnExactIsInside", fn := fun _ => fun
  | [d1, d2] => { results := [.lit (.bool true)], args := [d1, d2] }
  | _ => none }
def fnExactIsInsideRow : OpenClaim := { program := "ytlceoghkhgihdaa", sum := "7a479d6b3362f01b6cf13c9d0501fed9eebb0a42ae5a00d8d546fb81a724a3d7", func := "loop.example/g03208/laws.FnExactIsInside", spec := "fnExactIsInside", unfollowed := true, recurses := true, apart := false }
def FnExactIsInsideSaid : Prop := fnExactIsInsideRow.holds Try.pinned (OpenSpec.ofChange fnExactIsInsideSpec)

/-- ITS FALSE NEIGHBOUR: 'it returns false'. Refute it at one input. -/
def fnExactIsInsideWrong : ChangeSpec := { name := "fnExactIsInside", fn := fun _ => fun
  | [d1, d2] => { results := [.lit (.bool false)], args := [d1, d2] }
  | _ => none }
def FnExactIsInsideWrongFalsely : Prop := fnExactIsInsideRow.holds Try.pinned (OpenSpec.ofChange fnExactIsInsideWrong)

/-- 'laws.FnExactRimPoints': WHATEVER THE INPUT: true; the input reads as it did. -/
def fnExactRimPointsSpec : ChangeSpec := { name := "fnExactRimPoints", fn := fun _ => fun
  | [d] => { results := [.lit (.bool true)], args := [d] }
  | _ => none }
def fnExactRimPointsRow : OpenClaim := { program := "ytlceoghkhgihdaa", sum := "7a479d6b3362f01b6cf13c9d0501fed9eebb0a42ae5a00d8d546fb81a724a3d7", func := "loop.example/g03208/laws.FnExactRimPoints", spec := "fnExactRimPoints", unfollowed := true, recurses := true, apart := false }
def FnExactRimPointsSaid : Prop := fnExactRimPointsRow.holds Try.pinned (OpenSpec.ofChange fnExactRimPointsSpec)

/-- ITS FALSE NEIGHBOUR: 'it returns false'. Refute it at one input. -/
def fnExactRimPointsWrong : ChangeSpec := { name := "fnExactRimPoints", fn := fun _ => fun
  | [d] => { results := [.lit (.bool false)], args := [d] }
  | _ => none }
def FnExactRimPointsWrongFalsely : Prop := fnExactRimPointsRow.holds Try.pinned (OpenSpec.ofChange fnExactRimPointsWrong)

/- THE SECOND FORM. 'bulk': how many values and letters a reading holds, each counted each time it is reached (what is shared counts as often as it is met; a slice's spare places count too). A statement '..UptoSaid' is the law's where the arguments, and the package variables that the reading takes, are together of bulk at most 1048576: NARROWER than '..Said'. Prove '..Said' where nothing that the law and all that it calls make is longer than what came in: it says more and counts as full. Else prove '..UptoSaid'. A law counts once. -/
mutual
def uptoBulk {H : Type} : DataW H → Nat
  | .lit (.string bytes) => bytes.length + 1
  | .lit _ => 1
  | .nil => 1
  | .ptr d => uptoBulk d + 1
  | .slice elems spare => uptoBulkAll elems + uptoBulkAll spare + 1
  | .agg parts => uptoBulkAll parts + 1
  | .iface _ d => uptoBulk d + 1
  | .map entries => uptoBulkEntries entries + 1
  | .held _ => 1
def uptoBulkAll {H : Type} : List (DataW H) → Nat
  | [] => 0
  | d :: r => uptoBulk d + uptoBulkAll r
def uptoBulkEntries {H : Type} : List (Lit × DataW H) → Nat
  | [] => 0
  | x :: r => uptoBulkEntry x + uptoBulkEntries r
def uptoBulkEntry {H : Type} : Lit × DataW H → Nat
  | (.string bytes, d) => bytes.length + uptoBulk d + 1
  | (_, d) => uptoBulk d + 1
 end
def uptoSmall : (H : Type) → List (DataW H) → Bool := fun _ ds => decide (uptoBulkAll ds ≤ 1048576)
def OpenSpec.upto (s : _root_.Go.ChangeSpec) : _root_.Go.OpenSpec := { _root_.Go.OpenSpec.ofChange s with cond := some uptoSmall }

/-- 'laws.FnExactPointsOn', WHERE WHAT IT READS IS OF BULK AT MOST 1048576: true; the input reads as it did. -/
def fnExactPointsOnUptoRow : OpenClaim := { program := "ytlceoghkhgihdaa", sum := "7a479d6b3362f01b6cf13c9d0501fed9eebb0a42ae5a00d8d546fb81a724a3d7", func := "loop.example/g03208/laws.FnExactPointsOn", spec := "fnExactPointsOn", apart := false, narrowed := true }
def FnExactPointsOnUptoSaid : Prop := fnExactPointsOnUptoRow.holds Try.pinned (OpenSpec.upto fnExactPointsOnSpec)

/-- 'laws.FnExactHowMeet', WHERE WHAT IT READS IS OF BULK AT MOST 1048576: true; the input reads as it did. -/
def fnExactHowMeetUptoRow : OpenClaim := { program := "ytlceoghkhgihdaa", sum := "7a479d6b3362f01b6cf13c9d0501fed9eebb0a42ae5a00d8d546fb81a724a3d7", func := "loop.example/g03208/laws.FnExactHowMeet", spec := "fnExactHowMeet", unfollowed := true, recurses := true, apart := false, narrowed := true }
def FnExactHowMeetUptoSaid : Prop := fnExactHowMeetUptoRow.holds Try.pinned (OpenSpec.upto fnExactHowMeetSpec)

/-- 'laws.FnExactPolygonOk', WHERE WHAT IT READS IS OF BULK AT MOST 1048576: true; the input reads as it did. -/
def fnExactPolygonOkUptoRow : OpenClaim := { program := "ytlceoghkhgihdaa", sum := "7a479d6b3362f01b6cf13c9d0501fed9eebb0a42ae5a00d8d546fb81a724a3d7", func := "loop.example/g03208/laws.FnExactPolygonOk", spec := "fnExactPolygonOk", unfollowed := true, recurses := true, apart := false, narrowed := true }
def FnExactPolygonOkUptoSaid : Prop := fnExactPolygonOkUptoRow.holds Try.pinned (OpenSpec.upto fnExactPolygonOkSpec)

/-- 'laws.FnExactHullOf', WHERE WHAT IT READS IS OF BULK AT MOST 1048576: true; the input reads as it did. -/
def fnExactHullOfUptoRow : OpenClaim := { program := "ytlceoghkhgihdaa", sum := "7a479d6b3362f01b6cf13c9d0501fed9eebb0a42ae5a00d8d546fb81a724a3d7", func := "loop.example/g03208/laws.FnExactHullOf", spec := "fnExactHullOf", apart := false, narrowed := true }
def FnExactHullOfUptoSaid : Prop := fnExactHullOfUptoRow.holds Try.pinned (OpenSpec.upto fnExactHullOfSpec)

/-- 'laws.FnExactIsConvex', WHERE WHAT IT READS IS OF BULK AT MOST 1048576: true; the input reads as it did. -/
def fnExactIsConvexUptoRow : OpenClaim := { program := "ytlceoghkhgihdaa", sum := "7a479d6b3362f01b6cf13c9d0501fed9eebb0a42ae5a00d8d546fb81a724a3d7", func := "loop.example/g03208/laws.FnExactIsConvex", spec := "fnExactIsConvex", unfollowed := true, recurses := true, apart := false, narrowed := true }
def FnExactIsConvexUptoSaid : Prop := fnExactIsConvexUptoRow.holds Try.pinned (OpenSpec.upto fnExactIsConvexSpec)

/-- 'laws.FnExactSupports', WHERE WHAT IT READS IS OF BULK AT MOST 1048576: true; the input reads as it did. -/
def fnExactSupportsUptoRow : OpenClaim := { program := "ytlceoghkhgihdaa", sum := "7a479d6b3362f01b6cf13c9d0501fed9eebb0a42ae5a00d8d546fb81a724a3d7", func := "loop.example/g03208/laws.FnExactSupports", spec := "fnExactSupports", unfollowed := true, recurses := true, apart := false, narrowed := true }
def FnExactSupportsUptoSaid : Prop := fnExactSupportsUptoRow.holds Try.pinned (OpenSpec.upto fnExactSupportsSpec)

/-- 'laws.FnExactBoxOf', WHERE WHAT IT READS IS OF BULK AT MOST 1048576: true; the input reads as it did. -/
def fnExactBoxOfUptoRow : OpenClaim := { program := "ytlceoghkhgihdaa", sum := "7a479d6b3362f01b6cf13c9d0501fed9eebb0a42ae5a00d8d546fb81a724a3d7", func := "loop.example/g03208/laws.FnExactBoxOf", spec := "fnExactBoxOf", unfollowed := true, recurses := true, apart := false, narrowed := true }
def FnExactBoxOfUptoSaid : Prop := fnExactBoxOfUptoRow.holds Try.pinned (OpenSpec.upto fnExactBoxOfSpec)

/-- 'laws.FnExactTwiceArea', WHERE WHAT IT READS IS OF BULK AT MOST 1048576: true; the input reads as it did. -/
def fnExactTwiceAreaUptoRow : OpenClaim := { program := "ytlceoghkhgihdaa", sum := "7a479d6b3362f01b6cf13c9d0501fed9eebb0a42ae5a00d8d546fb81a724a3d7", func := "loop.example/g03208/laws.FnExactTwiceArea", spec := "fnExactTwiceArea", unfollowed := true, recurses := true, apart := false, narrowed := true }
def FnExactTwiceAreaUptoSaid : Prop := fnExactTwiceAreaUptoRow.holds Try.pinned (OpenSpec.upto fnExactTwiceAreaSpec)

/-- 'laws.FnExactSideCount', WHERE WHAT IT READS IS OF BULK AT MOST 1048576: true; the input reads as it did. -/
def fnExactSideCountUptoRow : OpenClaim := { program := "ytlceoghkhgihdaa", sum := "7a479d6b3362f01b6cf13c9d0501fed9eebb0a42ae5a00d8d546fb81a724a3d7", func := "loop.example/g03208/laws.FnExactSideCount", spec := "fnExactSideCount", unfollowed := true, recurses := true, apart := false, narrowed := true }
def FnExactSideCountUptoSaid : Prop := fnExactSideCountUptoRow.holds Try.pinned (OpenSpec.upto fnExactSideCountSpec)

/-- 'laws.FnExactWidestPair', WHERE WHAT IT READS IS OF BULK AT MOST 1048576: true; the input reads as it did. -/
def fnExactWidestPairUptoRow : OpenClaim := { program := "ytlceoghkhgihdaa", sum := "7a479d6b3362f01b6cf13c9d0501fed9eebb0a42ae5a00d8d546fb81a724a3d7", func := "loop.example/g03208/laws.FnExactWidestPair", spec := "fnExactWidestPair", unfollowed := true, recurses := true, apart := false, narrowed := true }
def FnExactWidestPairUptoSaid : Prop := fnExactWidestPairUptoRow.holds Try.pinned (OpenSpec.upto fnExactWidestPairSpec)

/-- 'laws.FnExactIsInside', WHERE WHAT IT READS IS OF BULK AT MOST 1048576: true; the input reads as it did. -/
def fnExactIsInsideUptoRow : OpenClaim := { program := "ytlceoghkhgihdaa", sum := "7a479d6b3362f01b6cf13c9d0501fed9eebb0a42ae5a00d8d546fb81a724a3d7", func := "loop.example/g03208/laws.FnExactIsInside", spec := "fnExactIsInside", unfollowed := true, recurses := true, apart := false, narrowed := true }
def FnExactIsInsideUptoSaid : Prop := fnExactIsInsideUptoRow.holds Try.pinned (OpenSpec.upto fnExactIsInsideSpec)

/-- 'laws.FnExactRimPoints', WHERE WHAT IT READS IS OF BULK AT MOST 1048576: true; the input reads as it did. -/
def fnExactRimPointsUptoRow : OpenClaim := { program := "ytlceoghkhgihdaa", sum := "7a479d6b3362f01b6cf13c9d0501fed9eebb0a42ae5a00d8d546fb81a724a3d7", func := "loop.example/g03208/laws.FnExactRimPoints", spec := "fnExactRimPoints", unfollowed := true, recurses := true, apart := false, narrowed := true }
def FnExactRimPointsUptoSaid : Prop := fnExactRimPointsUptoRow.holds Try.pinned (OpenSpec.upto fnExactRimPointsSpec)

end Rows
end Go.Proofs.Ytlceoghkhgihdaa
