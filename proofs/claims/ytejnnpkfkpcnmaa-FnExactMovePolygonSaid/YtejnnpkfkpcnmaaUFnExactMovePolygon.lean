/- The law named below holds for every input, as given in Rows: no conditions of ours. Written by rows.py (a program of this session). -/
import Derived.Test.YtejnnpkfkpcnmaaF8
namespace Go.Proofs.Ytejnnpkfkpcnmaa.G
open Go.RowKit Go.Proofs.YtejnnpkfkpcnmaaW.PrintWords Go.Proofs.YtejnnpkfkpcnmaaW.PrintLast Go.Proofs.YtejnnpkfkpcnmaaW.PrintMore
def laws_FnExactMovePolygon.Pure : Prop := ∀ (l0 : List S44) (a1 : Int),
    l0.length ≤ 9223372036854775807 →
    (∀ x ∈ l0, (Lit.int .i64 x.f0).wf = true ∧ (Lit.int .i64 x.f1).wf = true) →
    (Lit.int .i64 a1).wf = true →
    ∃ k, laws_FnExactMovePolygon.f k l0 a1 = some true
end Go.Proofs.Ytejnnpkfkpcnmaa.G
