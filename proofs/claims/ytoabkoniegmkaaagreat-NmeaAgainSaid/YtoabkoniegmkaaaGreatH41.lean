/- Layer 26: the reference's Take. Printed by genrmcr.py. -/
import Derived.Test.YtoabkoniegmkaaaGreatH27
import Derived.Test.YtoabkoniegmkaaaGreatH28
import Derived.Test.YtoabkoniegmkaaaGreatH39
import Derived.Test.YtoabkoniegmkaaaGreatH40
import Derived.Deep.RegionHeld3
namespace Go.Proofs.YtoabkoniegmkaaaGreat
set_option linter.unusedVariables false
open Go.RowKit
set_option linter.unusedSimpArgs false
end Go.Proofs.YtoabkoniegmkaaaGreat
