/- Layer 24: a text's date, by the reference. -/
import Derived.Test.YtoabkoniegmkaaaGreatJ20
import Derived.Test.YtoabkoniegmkaaaGreatJ08
namespace Go.Proofs.YtoabkoniegmkaaaGreat
set_option linter.unusedVariables false
open Go.RowKit
end Go.Proofs.YtoabkoniegmkaaaGreat
