/- Layer 24: a text's date, by the reference. -/
import Derived.Test.YtoabkoniegmkaaaGreatH36
import Derived.Test.YtoabkoniegmkaaaGreatH23
import Derived.Test.YtoabkoniegmkaaaGreatH11
namespace Go.Proofs.YtoabkoniegmkaaaGreat
set_option linter.unusedVariables false
open Go.RowKit
end Go.Proofs.YtoabkoniegmkaaaGreat
