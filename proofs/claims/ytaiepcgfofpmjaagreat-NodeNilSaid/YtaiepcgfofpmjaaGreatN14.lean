/- Layer 45: digits of a number, of the program. -/
import Derived.Test.YtaiepcgfofpmjaaGreatN10
namespace Go.Proofs.YtaiepcgfofpmjaaGreat
set_option linter.unusedVariables false
open Go.RowKit
end Go.Proofs.YtaiepcgfofpmjaaGreat
