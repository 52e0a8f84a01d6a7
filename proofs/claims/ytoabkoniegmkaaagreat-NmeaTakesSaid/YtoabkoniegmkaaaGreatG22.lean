/- Layer 25: Put. Printed by genggap.py. -/
import Derived.Test.YtoabkoniegmkaaaGreatG15
namespace Go.Proofs.YtoabkoniegmkaaaGreat
set_option linter.unusedVariables false
open Go.RowKit
end Go.Proofs.YtoabkoniegmkaaaGreat
