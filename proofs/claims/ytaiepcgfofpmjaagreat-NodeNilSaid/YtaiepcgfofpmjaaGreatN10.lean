/- Contracts of package parity (program): Of, digit, Hex, value, Unhex, Seal, Open. -/
import Derived.Test.YtaiepcgfofpmjaaGreatProg
import Derived.Test.YtaiepcgfofpmjaaGreatN00
import Derived.Test.YtaiepcgfofpmjaaGreatN09
namespace Go.Proofs.YtaiepcgfofpmjaaGreat
set_option linter.unusedVariables false
open Go.RowKit
def I64 (n:Int):Prop:=-9223372036854775808≤n∧n≤9223372036854775807
end Go.Proofs.YtaiepcgfofpmjaaGreat
