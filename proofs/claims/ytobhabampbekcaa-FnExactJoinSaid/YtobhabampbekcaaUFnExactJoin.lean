/- The law named below holds for every input, as given in Rows: no conditions of ours. Written by rows.py (a program of this session). -/
import Derived.Test.YtobhabampbekcaaF6
namespace Go.Proofs.Ytobhabampbekcaa.G
open Go.RowKit Go.Proofs.YtobhabampbekcaaW.PrintWords Go.Proofs.YtobhabampbekcaaW.PrintLast Go.Proofs.YtobhabampbekcaaW.PrintMore
def laws_FnExactJoin.Pure : Prop := ∀ (l0 : List ByteArray) (a1 : ByteArray),
    l0.length ≤ 9223372036854775807 →
    (∀ x ∈ l0, x.size ≤ 9223372036854775807) →
    a1.size ≤ 140737488351232 →
    ∃ k, laws_FnExactJoin.f k l0 a1 = some true
end Go.Proofs.Ytobhabampbekcaa.G
