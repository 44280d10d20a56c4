/- The law named below holds for every input, as given in Rows: no conditions of ours. Written by rows.py (a program of this session). -/
import Derived.Test.YtbcndlfnmhmigaaF3
namespace Go.Proofs.Ytbcndlfnmhmigaa.G
open Go.RowKit Go.Proofs.YtbcndlfnmhmigaaW.PrintWords Go.Proofs.YtbcndlfnmhmigaaW.PrintLast Go.Proofs.YtbcndlfnmhmigaaW.PrintMore
def laws_FnExactSplitLines.Pure : Prop := ∀ (a0 : ByteArray),
    a0.size ≤ 140737488351232 →
    ∃ k, laws_FnExactSplitLines.f k a0 = some true
end Go.Proofs.Ytbcndlfnmhmigaa.G
