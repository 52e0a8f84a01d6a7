/- Layer 24: a text's time, by the reference: eight bytes. Printed by genclkk.py. -/
import Derived.Test.YtoabkoniegmkaaaGreatJ32
import Derived.Test.YtoabkoniegmkaaaGreatJ33
namespace Go.Proofs.YtoabkoniegmkaaaGreat
set_option linter.unusedVariables false
open Go.RowKit
end Go.Proofs.YtoabkoniegmkaaaGreat
