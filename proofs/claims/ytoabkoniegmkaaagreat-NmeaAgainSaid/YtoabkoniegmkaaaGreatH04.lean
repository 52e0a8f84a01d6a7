/- Layer 23: the reference's Angle. -/
import Derived.Test.YtoabkoniegmkaaaGreatH03
import Derived.Deep.QuietTactic
namespace Go.Proofs.YtoabkoniegmkaaaGreat
set_option linter.unusedVariables false
open Go.RowKit
end Go.Proofs.YtoabkoniegmkaaaGreat
