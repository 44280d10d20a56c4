/- The law named below holds for every input, as given in Rows: no conditions of ours. Written by rows.py (a program of this session). -/
import Derived.Test.YtoampilfefkooaaF3
namespace Go.Proofs.Ytoampilfefkooaa.G
open Go.RowKit Go.Proofs.YtoampilfefkooaaW.PrintWords Go.Proofs.YtoampilfefkooaaW.PrintLast Go.Proofs.YtoampilfefkooaaW.PrintMore
def laws_FnExactConstants.Pure : Prop := laws_FnExactConstants.f  = some true
end Go.Proofs.Ytoampilfefkooaa.G
