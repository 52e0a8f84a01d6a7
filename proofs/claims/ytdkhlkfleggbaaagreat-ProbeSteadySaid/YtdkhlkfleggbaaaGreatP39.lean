/- Layer 25: the reference's Take. Printed by genggaq.py. -/
import Derived.Test.YtdkhlkfleggbaaaGreatP28
import Derived.Test.YtdkhlkfleggbaaaGreatP38
import Derived.Deep.RegionHeld3
namespace Go.Proofs.YtdkhlkfleggbaaaGreat
open Lib (hid)
set_option linter.unusedVariables false
open Go.RowKit
set_option linter.unusedSimpArgs false
end Go.Proofs.YtdkhlkfleggbaaaGreat
