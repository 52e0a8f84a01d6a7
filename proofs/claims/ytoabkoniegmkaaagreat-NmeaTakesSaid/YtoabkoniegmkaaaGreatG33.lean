/- Layer 27: the reference's Put. Printed by gengsab.py. -/
import Derived.Test.YtoabkoniegmkaaaGreatG24
import Derived.Test.YtoabkoniegmkaaaGreatG15
namespace Go.Proofs.YtoabkoniegmkaaaGreat
set_option linter.unusedVariables false
open Go.RowKit
end Go.Proofs.YtoabkoniegmkaaaGreat
