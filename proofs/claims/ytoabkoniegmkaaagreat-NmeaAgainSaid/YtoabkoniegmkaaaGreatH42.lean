/- Layer 30: the reference's Take. Printed by gennm9.py. -/
import Derived.Test.YtoabkoniegmkaaaGreatH32
import Derived.Test.YtoabkoniegmkaaaGreatH39
import Derived.Test.YtoabkoniegmkaaaGreatH41
namespace Go.Proofs.YtoabkoniegmkaaaGreat
set_option linter.unusedVariables false
open Go.RowKit
end Go.Proofs.YtoabkoniegmkaaaGreat
