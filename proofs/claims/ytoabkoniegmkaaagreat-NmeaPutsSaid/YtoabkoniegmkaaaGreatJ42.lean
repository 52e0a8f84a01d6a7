/- The contract of the reference's Take of layer 22, way by way. -/
import Derived.Test.YtoabkoniegmkaaaGreatJ41
import Derived.Test.YtoabkoniegmkaaaGreatJ40
namespace Go.Proofs.YtoabkoniegmkaaaGreat
set_option linter.unusedVariables false
open Go.RowKit
end Go.Proofs.YtoabkoniegmkaaaGreat
