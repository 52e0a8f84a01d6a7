/- Layer 23: ten, Right, fits, of the program and of the reference. -/
import Derived.Test.YtaiepcgfofpmjaaGreatS00
import Derived.Test.YtaiepcgfofpmjaaGreatProg
import Derived.BigQuiet
namespace Go.Proofs.YtaiepcgfofpmjaaGreat
set_option linter.unusedVariables false
open Go.RowKit
end Go.Proofs.YtaiepcgfofpmjaaGreat
