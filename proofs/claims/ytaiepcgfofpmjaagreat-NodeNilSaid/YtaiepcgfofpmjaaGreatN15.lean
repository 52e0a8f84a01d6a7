/- Layer 45: digits and the number of a word, of the reference. -/
import Derived.Test.YtaiepcgfofpmjaaGreatN14
import Derived.Test.YtaiepcgfofpmjaaGreatN04
import Derived.Deep.LoopGhost
import Derived.Test.YtaiepcgfofpmjaaGreatN13
import Derived.Deep.DeepCutAuto
import Derived.Deep.RegionWith
import Derived.Deep.RegionLaw
namespace Go.Proofs.YtaiepcgfofpmjaaGreat
set_option linter.unusedVariables false
open Go.RowKit
def intL (n:Int):Value:=.int .i64 n
def pairC (ps:List (Int×Int)):List Value:=ps.flatMap fun p=>[.int .i64 p.1,.int .i64 p.2]
end Go.Proofs.YtaiepcgfofpmjaaGreat
