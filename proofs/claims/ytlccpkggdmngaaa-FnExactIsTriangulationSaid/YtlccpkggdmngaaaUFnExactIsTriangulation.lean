/- The law named below holds for every input, as given in Rows: no conditions of ours. Written by rows.py (a program of this session). -/
import Derived.Test.YtlccpkggdmngaaaF6
namespace Go.Proofs.Ytlccpkggdmngaaa.G
open Go.RowKit Go.Proofs.YtlccpkggdmngaaaW.PrintWords Go.Proofs.YtlccpkggdmngaaaW.PrintLast Go.Proofs.YtlccpkggdmngaaaW.PrintMore
def laws_FnExactIsTriangulation.Pure : Prop := ∀ (l0 : List S74) (l1 : List (List Int)),
    l0.length ≤ 9223372036854775807 →
    (∀ x ∈ l0, (Lit.int .i64 x.f0).wf = true ∧ (Lit.int .i64 x.f1).wf = true) →
    l1.length ≤ 9223372036854775807 →
    (∀ x ∈ l1, x.length ≤ 9223372036854775807) →
    ∃ k, laws_FnExactIsTriangulation.f k l0 l1 = some true
end Go.Proofs.Ytlccpkggdmngaaa.G
