/- The contract of the reference's Take of layer 22, way by way. -/
import Derived.Test.YtdkhlkfleggbaaaGreatR44
namespace Go.Proofs.YtdkhlkfleggbaaaGreat
open Lib (hid)
open Tryz
set_option linter.unusedVariables false
open Go.RowKit
end Go.Proofs.YtdkhlkfleggbaaaGreat
