/- Layer 25: the reference's Take. Printed by genggaq.py. -/
import Derived.Test.YtdkhlkfleggbaaaGreatR28
import Derived.Test.YtdkhlkfleggbaaaGreatR38
namespace Go.Proofs.YtdkhlkfleggbaaaGreat
open Lib (hid)
open Tryz
set_option linter.unusedVariables false
open Go.RowKit
set_option linter.unusedSimpArgs false
end Go.Proofs.YtdkhlkfleggbaaaGreat
