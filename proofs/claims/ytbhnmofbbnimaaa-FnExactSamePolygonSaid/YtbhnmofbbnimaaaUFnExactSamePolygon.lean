/- The law named below holds for every input, as given in Rows: no conditions of ours. Written by rows.py (a program of this session). -/
import Derived.Test.YtbhnmofbbnimaaaF8
namespace Go.Proofs.Ytbhnmofbbnimaaa.G
open Go.RowKit Go.Proofs.YtbhnmofbbnimaaaW.PrintWords Go.Proofs.YtbhnmofbbnimaaaW.PrintLast Go.Proofs.YtbhnmofbbnimaaaW.PrintMore
def laws_FnExactSamePolygon.Pure : Prop := ∀ (l0 : List S48) (l1 : List S48),
    l0.length ≤ 9223372036854775807 →
    (∀ x ∈ l0, (Lit.int .i64 x.f0).wf = true ∧ (Lit.int .i64 x.f1).wf = true) →
    l1.length ≤ 9223372036854775807 →
    (∀ x ∈ l1, (Lit.int .i64 x.f0).wf = true ∧ (Lit.int .i64 x.f1).wf = true) →
    ∃ k, laws_FnExactSamePolygon.f k l0 l1 = some true
end Go.Proofs.Ytbhnmofbbnimaaa.G
