/- Parts. -/
import Derived.Test.YtdkhlkfleggbaaaGreatU14
namespace Go.Proofs.YtdkhlkfleggbaaaGreat
open Lib (hid)
open Tryz
set_option linter.unusedVariables false
open Go.RowKit
