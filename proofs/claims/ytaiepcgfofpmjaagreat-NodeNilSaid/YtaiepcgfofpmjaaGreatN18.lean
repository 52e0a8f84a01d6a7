/- Layer 45, plain: what is shown is read as those steps. -/
import Derived.Test.YtaiepcgfofpmjaaGreatN10
namespace Go.Proofs.YtaiepcgfofpmjaaGreat
set_option linter.unusedVariables false
open Go.RowKit
end Go.Proofs.YtaiepcgfofpmjaaGreat
