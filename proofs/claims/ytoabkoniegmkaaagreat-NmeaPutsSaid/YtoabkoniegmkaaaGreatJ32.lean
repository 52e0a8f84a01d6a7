/- Layer 24: a text's time, by the reference. Printed by genclkk.py. -/
import Derived.Test.YtoabkoniegmkaaaGreatJ20
namespace Go.Proofs.YtoabkoniegmkaaaGreat
set_option linter.unusedVariables false
open Go.RowKit
end Go.Proofs.YtoabkoniegmkaaaGreat
