/- The law named below holds for every input, as given in Rows: no conditions of ours. Written by rows.py (a program of this session). -/
import Derived.Test.YtobhabampbekcaaF3
namespace Go.Proofs.Ytobhabampbekcaa.G
open Go.RowKit Go.Proofs.YtobhabampbekcaaW.PrintWords Go.Proofs.YtobhabampbekcaaW.PrintLast Go.Proofs.YtobhabampbekcaaW.PrintMore
def laws_FnExactSplitAny.Pure : Prop := ∀ (a0 : ByteArray) (a1 : ByteArray),
    a0.size ≤ 140737488351232 →
    a1.size ≤ 140737488351232 →
    ∃ k, laws_FnExactSplitAny.f k a0 a1 = some true
end Go.Proofs.Ytobhabampbekcaa.G
