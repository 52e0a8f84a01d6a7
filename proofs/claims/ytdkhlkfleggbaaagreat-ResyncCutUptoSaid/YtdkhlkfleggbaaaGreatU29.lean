/- Parts. -/
import Derived.Test.YtdkhlkfleggbaaaGreatU22
import Derived.Test.YtdkhlkfleggbaaaGreatU28
namespace Go.Proofs.YtdkhlkfleggbaaaGreat
open Lib (hid)
open Tryz
set_option linter.unusedVariables false
open Go.RowKit
set_option linter.unusedSimpArgs false
