/- The law named below holds for every input, as given in Rows: no conditions of ours. Written by rows.py (a program of this session). -/
import Derived.Test.YtlfifpkigapabaaF3
namespace Go.Proofs.Ytlfifpkigapabaa.G
open Go.RowKit Go.Proofs.YtlfifpkigapabaaW.PrintWords Go.Proofs.YtlfifpkigapabaaW.PrintLast Go.Proofs.YtlfifpkigapabaaW.PrintMore
def laws_FnExactComposeMotions.Pure : Prop := ∀ (a0 : Int) (a1 : Int),
    (Lit.int .i64 a0).wf = true →
    (Lit.int .i64 a1).wf = true →
    ∃ k, laws_FnExactComposeMotions.f k a0 a1 = some true
end Go.Proofs.Ytlfifpkigapabaa.G
