/- The contract of the reference's Take of layer 22, way by way. -/
import Derived.Test.YtdkhlkfleggbaaaGreatP44
import Derived.Test.YtdkhlkfleggbaaaGreatP43
namespace Go.Proofs.YtdkhlkfleggbaaaGreat
open Lib (hid)
set_option linter.unusedVariables false
open Go.RowKit
end Go.Proofs.YtdkhlkfleggbaaaGreat
