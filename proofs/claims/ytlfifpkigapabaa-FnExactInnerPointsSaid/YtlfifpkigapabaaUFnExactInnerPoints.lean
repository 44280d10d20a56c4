/- The law named below holds for every input, as given in Rows: no conditions of ours. Written by rows.py (a program of this session). -/
import Derived.Test.YtlfifpkigapabaaF5
namespace Go.Proofs.Ytlfifpkigapabaa.G
open Go.RowKit Go.Proofs.YtlfifpkigapabaaW.PrintWords Go.Proofs.YtlfifpkigapabaaW.PrintLast Go.Proofs.YtlfifpkigapabaaW.PrintMore
def laws_FnExactInnerPoints.Pure : Prop := ∀ (l0 : List S46),
    l0.length ≤ 9223372036854775807 →
    (∀ x ∈ l0, (Lit.int .i64 x.f0).wf = true ∧ (Lit.int .i64 x.f1).wf = true) →
    ∃ k, laws_FnExactInnerPoints.f k l0 = some true
end Go.Proofs.Ytlfifpkigapabaa.G
