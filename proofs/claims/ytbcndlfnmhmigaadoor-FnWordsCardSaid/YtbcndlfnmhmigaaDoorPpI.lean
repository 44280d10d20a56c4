/- What impl.ParseInt answers, in plain words. By this session. -/
import Derived.Test.YtbcndlfnmhmigaaDoorG0
import Derived.Lib.AtoiAllCases
import Derived.Lib.ItoaNum
namespace Go.Proofs.YtbcndlfnmhmigaaDoor.G
open Go.RowKit
def numText (n : Int) : ByteArray := ⟨(Lib.itoa n).toArray⟩
def parsed (s : ByteArray) : Int × Bool := match Lib.atoiAll s.data.toList with
  | .ok v => if (numText v).toList = s.toList then (v, true) else (0, false)
  | _ => (0, false)
end Go.Proofs.YtbcndlfnmhmigaaDoor.G
