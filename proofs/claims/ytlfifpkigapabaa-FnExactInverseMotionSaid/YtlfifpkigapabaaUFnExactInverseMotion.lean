/- The law named below holds for every input, as given in Rows: no conditions of ours. Written by rows.py (a program of this session). -/
import Derived.Test.YtlfifpkigapabaaF4
namespace Go.Proofs.Ytlfifpkigapabaa.G
open Go.RowKit Go.Proofs.YtlfifpkigapabaaW.PrintWords Go.Proofs.YtlfifpkigapabaaW.PrintLast Go.Proofs.YtlfifpkigapabaaW.PrintMore
def laws_FnExactInverseMotion.Pure : Prop := ∀ (a0 : Int),
    (Lit.int .i64 a0).wf = true →
    ∃ k, laws_FnExactInverseMotion.f k a0 = some true
end Go.Proofs.Ytlfifpkigapabaa.G
