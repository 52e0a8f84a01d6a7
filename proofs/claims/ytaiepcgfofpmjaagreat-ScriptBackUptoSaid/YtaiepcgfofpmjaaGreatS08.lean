/- Layer 23: the reference's Right; fits. -/
import Derived.Test.YtaiepcgfofpmjaaGreatS07
namespace Go.Proofs.YtaiepcgfofpmjaaGreat
set_option linter.unusedVariables false
open Go.RowKit
end Go.Proofs.YtaiepcgfofpmjaaGreat
