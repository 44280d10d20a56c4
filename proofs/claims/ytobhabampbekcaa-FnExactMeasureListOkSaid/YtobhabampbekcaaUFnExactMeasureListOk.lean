/- The law named below holds for every input, as given in Rows: no conditions of ours. Written by rows.py (a program of this session). -/
import Derived.Test.YtobhabampbekcaaF7
namespace Go.Proofs.Ytobhabampbekcaa.G
open Go.RowKit Go.Proofs.YtobhabampbekcaaW.PrintWords Go.Proofs.YtobhabampbekcaaW.PrintLast Go.Proofs.YtobhabampbekcaaW.PrintMore
def laws_FnExactMeasureListOk.Pure : Prop := ∀ (l0 : List (List Int)),
    l0.length ≤ 9223372036854775807 →
    (∀ x ∈ l0, x.length ≤ 9223372036854775807) →
    ∃ k, laws_FnExactMeasureListOk.f k l0 = some true
end Go.Proofs.Ytobhabampbekcaa.G
