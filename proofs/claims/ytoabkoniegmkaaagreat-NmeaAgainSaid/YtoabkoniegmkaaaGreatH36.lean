/- Layer 24: a text's time, by the reference. -/
import Derived.Test.YtoabkoniegmkaaaGreatH23
import Derived.Test.YtoabkoniegmkaaaGreatH21
namespace Go.Proofs.YtoabkoniegmkaaaGreat
set_option linter.unusedVariables false
open Go.RowKit
end Go.Proofs.YtoabkoniegmkaaaGreat
