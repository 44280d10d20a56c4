/- The law named below holds for every input, as given in Rows: no conditions of ours. Written by rows.py (a program of this session). -/
import Derived.Test.YtlceoghkhgihdaaF11
namespace Go.Proofs.Ytlceoghkhgihdaa.G
open Go.RowKit Go.Proofs.YtlceoghkhgihdaaW.PrintWords Go.Proofs.YtlceoghkhgihdaaW.PrintLast Go.Proofs.YtlceoghkhgihdaaW.PrintMore
def laws_FnExactSideCount.Pure : Prop := ∀ (l0 : List S23),
    l0.length ≤ 9223372036854775807 →
    (∀ x ∈ l0, (Lit.int .i64 x.f0).wf = true ∧ (Lit.int .i64 x.f1).wf = true) →
    ∃ k, laws_FnExactSideCount.f k l0 = some true
end Go.Proofs.Ytlceoghkhgihdaa.G
