/- The contract of the reference's Take of layer 22, way by way. -/
import Derived.Test.YtoabkoniegmkaaaGreatH45
import Derived.Test.YtoabkoniegmkaaaGreatH44
namespace Go.Proofs.YtoabkoniegmkaaaGreat
set_option linter.unusedVariables false
open Go.RowKit
end Go.Proofs.YtoabkoniegmkaaaGreat
