/- Parts. -/
import Derived.Test.YtdkhlkfleggbaaaGreatU19
namespace Go.Proofs.YtdkhlkfleggbaaaGreat
open Lib (hid)
open Tryz
set_option linter.unusedVariables false
open Go.RowKit
