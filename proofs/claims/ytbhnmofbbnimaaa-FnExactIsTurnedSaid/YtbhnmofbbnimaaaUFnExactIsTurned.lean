/- The law named below holds for every input, as given in Rows: no conditions of ours. Written by rows.py (a program of this session). -/
import Derived.Test.YtbhnmofbbnimaaaF10
namespace Go.Proofs.Ytbhnmofbbnimaaa.G
open Go.RowKit Go.Proofs.YtbhnmofbbnimaaaW.PrintWords Go.Proofs.YtbhnmofbbnimaaaW.PrintLast Go.Proofs.YtbhnmofbbnimaaaW.PrintMore
def laws_FnExactIsTurned.Pure : Prop := ∀ (l0 : List S48) (l1 : List S48) (a2 : Int),
    l0.length ≤ 9223372036854775807 →
    (∀ x ∈ l0, (Lit.int .i64 x.f0).wf = true ∧ (Lit.int .i64 x.f1).wf = true) →
    l1.length ≤ 9223372036854775807 →
    (∀ x ∈ l1, (Lit.int .i64 x.f0).wf = true ∧ (Lit.int .i64 x.f1).wf = true) →
    (Lit.int .i64 a2).wf = true →
    ∃ k, laws_FnExactIsTurned.f k l0 l1 a2 = some true
end Go.Proofs.Ytbhnmofbbnimaaa.G
