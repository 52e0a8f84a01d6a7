/- Parts. -/
import Derived.Test.YtdkhlkfleggbaaaGreatQ22
import Derived.Test.YtdkhlkfleggbaaaGreatQ26
import Derived.Test.YtdkhlkfleggbaaaGreatQ27
namespace Go.Proofs.YtdkhlkfleggbaaaGreat
open Lib (hid)
open Tryz
set_option linter.unusedVariables false
open Go.RowKit
set_option linter.unusedSimpArgs false
