/- The law named below holds for every input, as given in Rows: no conditions of ours. Written by rows.py (a program of this session). -/
import Derived.Test.YtobhabampbekcaaF5
namespace Go.Proofs.Ytobhabampbekcaa.G
open Go.RowKit Go.Proofs.YtobhabampbekcaaW.PrintWords Go.Proofs.YtobhabampbekcaaW.PrintLast Go.Proofs.YtobhabampbekcaaW.PrintMore
def laws_FnExactDirectionOf.Pure : Prop := ∀ (a0_0 a0_1 : Int) (a1_0 a1_1 : Int),
    (Lit.int .i64 a0_0).wf = true →
    (Lit.int .i64 a0_1).wf = true →
    (Lit.int .i64 a1_0).wf = true →
    (Lit.int .i64 a1_1).wf = true →
    ∃ k, laws_FnExactDirectionOf.f k a0_0 a0_1 a1_0 a1_1 = some true
end Go.Proofs.Ytobhabampbekcaa.G
