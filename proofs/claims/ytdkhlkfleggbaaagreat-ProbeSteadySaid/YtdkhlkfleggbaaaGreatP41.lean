/- Layer 26: the reference's Take. Printed by genrmcr.py. -/
import Derived.Test.YtdkhlkfleggbaaaGreatP30
import Derived.Test.YtdkhlkfleggbaaaGreatP31
import Derived.Test.YtdkhlkfleggbaaaGreatP39
import Derived.Test.YtdkhlkfleggbaaaGreatP40
import Derived.Deep.RegionHeld3
namespace Go.Proofs.YtdkhlkfleggbaaaGreat
open Lib (hid)
set_option linter.unusedVariables false
open Go.RowKit
set_option linter.unusedSimpArgs false
end Go.Proofs.YtdkhlkfleggbaaaGreat
