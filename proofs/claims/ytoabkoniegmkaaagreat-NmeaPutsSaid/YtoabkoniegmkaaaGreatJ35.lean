/- Layer 25: the reference's Take. Printed by genggaq.py. -/
import Derived.Test.YtoabkoniegmkaaaGreatJ22
import Derived.Test.YtoabkoniegmkaaaGreatJ34
import Derived.Test.YtoabkoniegmkaaaGreatJ10
import Derived.Deep.RegionHeld3
namespace Go.Proofs.YtoabkoniegmkaaaGreat
set_option linter.unusedVariables false
open Go.RowKit
set_option linter.unusedSimpArgs false
end Go.Proofs.YtoabkoniegmkaaaGreat
