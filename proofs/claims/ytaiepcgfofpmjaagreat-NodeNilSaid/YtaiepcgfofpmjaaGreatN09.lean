/- Layer 23: fits; digits. -/
import Derived.Test.YtaiepcgfofpmjaaGreatN08
import Derived.Lib.TrimByte
namespace Go.Proofs.YtaiepcgfofpmjaaGreat
set_option linter.unusedVariables false
open Go.RowKit
end Go.Proofs.YtaiepcgfofpmjaaGreat
