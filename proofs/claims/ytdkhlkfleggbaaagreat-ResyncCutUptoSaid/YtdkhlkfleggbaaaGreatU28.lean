/- Parts. -/
import Derived.Test.YtdkhlkfleggbaaaGreatU20
import Derived.Test.YtdkhlkfleggbaaaGreatU27
namespace Go.Proofs.YtdkhlkfleggbaaaGreat
open Lib (hid)
open Tryz
set_option linter.unusedVariables false
open Go.RowKit
set_option linter.unusedSimpArgs false
