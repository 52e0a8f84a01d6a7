/- Layer 26: the reference's Take. Printed by genrmcr.py. -/
import Derived.Test.YtdkhlkfleggbaaaGreatR31
import Derived.Test.YtdkhlkfleggbaaaGreatR39
import Derived.Test.YtdkhlkfleggbaaaGreatR40
namespace Go.Proofs.YtdkhlkfleggbaaaGreat
open Lib (hid)
open Tryz
set_option linter.unusedVariables false
open Go.RowKit
set_option linter.unusedSimpArgs false
end Go.Proofs.YtdkhlkfleggbaaaGreat
