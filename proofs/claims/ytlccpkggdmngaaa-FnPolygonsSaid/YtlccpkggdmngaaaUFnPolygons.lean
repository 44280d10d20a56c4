/- The law named below holds for every input, as given in Rows: no conditions of ours. Written by rows.py (a program of this session). -/
import Derived.Test.YtlccpkggdmngaaaFQJ
namespace Go.Proofs.Ytlccpkggdmngaaa.G
open Go.RowKit Go.Proofs.YtlccpkggdmngaaaW.PrintWords Go.Proofs.YtlccpkggdmngaaaW.PrintLast Go.Proofs.YtlccpkggdmngaaaW.PrintMore
def laws_FnPolygons.Pure : Prop := ∀ (l0 : List Int),
    l0.length ≤ 9223372036854775807 →
    (∀ x ∈ l0, (Lit.int .u8 x).wf = true) →
    l0.length * 1 ≤ 140737488351232 →
    ∃ k, laws_FnPolygons.f k l0 = some true
end Go.Proofs.Ytlccpkggdmngaaa.G
