/- Layer 45: bytes of hex, of the program and of the reference. -/
import Derived.Test.YtaiepcgfofpmjaaGreatN15
import Derived.Test.YtaiepcgfofpmjaaGreatN10
import Derived.Test.YtaiepcgfofpmjaaGreatN16
namespace Go.Proofs.YtaiepcgfofpmjaaGreat
set_option linter.unusedVariables false
open Go.RowKit
theorem byte_infoS:(Tryz.prog.info? 5).map (fun i=>(i.zero,i.size,i.bytes))=some (some (.int .u8 0),1,1):=by kernel_rfl
def byL (c:UInt8):Value:=.int .u8 (c.toNat:Int)
end Go.Proofs.YtaiepcgfofpmjaaGreat
