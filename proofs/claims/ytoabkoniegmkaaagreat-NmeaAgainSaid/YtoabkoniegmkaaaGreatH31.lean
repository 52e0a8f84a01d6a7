/- Layer 29: the reference's Put. Printed by gengsv4.py. -/
import Derived.Test.YtoabkoniegmkaaaGreatH16
namespace Go.Proofs.YtoabkoniegmkaaaGreat
set_option linter.unusedVariables false
open Go.RowKit
end Go.Proofs.YtoabkoniegmkaaaGreat
