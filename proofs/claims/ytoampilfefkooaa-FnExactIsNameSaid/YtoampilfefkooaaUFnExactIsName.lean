/- The law named below holds for every input, as given in Rows: no conditions of ours. Written by rows.py (a program of this session). -/
import Derived.Test.YtoampilfefkooaaF7
namespace Go.Proofs.Ytoampilfefkooaa.G
open Go.RowKit Go.Proofs.YtoampilfefkooaaW.PrintWords Go.Proofs.YtoampilfefkooaaW.PrintLast Go.Proofs.YtoampilfefkooaaW.PrintMore
def laws_FnExactIsName.Pure : Prop := ∀ (a0 : ByteArray),
    a0.size ≤ 140737488351232 →
    ∃ k, laws_FnExactIsName.f k a0 = some true
end Go.Proofs.Ytoampilfefkooaa.G
