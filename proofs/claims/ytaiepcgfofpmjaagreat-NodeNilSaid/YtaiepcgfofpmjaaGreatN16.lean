/- Contracts of the reference of layer 7: bit, Of, Hex, Digit, Unhex, Seal, Open. -/
import Derived.Test.YtaiepcgfofpmjaaGreatN10
import Derived.Deep.QuietTactic
import Derived.BigQuiet
namespace Go.Proofs.YtaiepcgfofpmjaaGreat
set_option linter.unusedVariables false
open Go.RowKit
end Go.Proofs.YtaiepcgfofpmjaaGreat
