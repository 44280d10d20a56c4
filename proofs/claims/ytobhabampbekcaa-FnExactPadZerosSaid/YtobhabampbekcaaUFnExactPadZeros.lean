/- The law named below holds for every input, as given in Rows: no conditions of ours. Written by rows.py (a program of this session). -/
import Derived.Test.YtobhabampbekcaaF8
namespace Go.Proofs.Ytobhabampbekcaa.G
open Go.RowKit Go.Proofs.YtobhabampbekcaaW.PrintWords Go.Proofs.YtobhabampbekcaaW.PrintLast Go.Proofs.YtobhabampbekcaaW.PrintMore
def laws_FnExactPadZeros.Pure : Prop := ∀ (a0 : ByteArray) (a1 : Int),
    a0.size ≤ 140737488351232 →
    (Lit.int .i64 a1).wf = true →
    ∃ k, laws_FnExactPadZeros.f k a0 a1 = some true
end Go.Proofs.Ytobhabampbekcaa.G
