/- Layer 26: the reference's Take. Printed by genrmcr.py. -/
import Derived.Test.YtoabkoniegmkaaaGreatJ36
import Derived.Test.YtoabkoniegmkaaaGreatJ25
import Derived.Test.YtoabkoniegmkaaaGreatJ35
import Derived.Test.YtoabkoniegmkaaaGreatJ37
import Derived.Deep.RegionHeld3
namespace Go.Proofs.YtoabkoniegmkaaaGreat
set_option linter.unusedVariables false
open Go.RowKit
set_option linter.unusedSimpArgs false
end Go.Proofs.YtoabkoniegmkaaaGreat
