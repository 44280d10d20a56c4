/- A word for seats without points. The bounds stand in the theorem. -/
import Derived.Test.YtbcndlfnmhmigaaG0
namespace Go.Proofs.Ytbcndlfnmhmigaa.G
open Go.RowKit Go.Proofs.YtbcndlfnmhmigaaW.PrintWords Go.Proofs.YtbcndlfnmhmigaaW.PrintLast Go.Proofs.YtbcndlfnmhmigaaW.PrintMore
theorem wrap64_id {x : Int} (h0 : -9223372036854775808 ≤ x) (h1 : x ≤ 9223372036854775807) : wrap64 x = x := by unfold wrap64; omega
end Go.Proofs.Ytbcndlfnmhmigaa.G
