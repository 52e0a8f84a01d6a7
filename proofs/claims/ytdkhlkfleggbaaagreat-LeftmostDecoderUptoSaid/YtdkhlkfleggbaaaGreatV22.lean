/- Parts. -/
import Derived.Test.YtdkhlkfleggbaaaGreatV17
namespace Go.Proofs.YtdkhlkfleggbaaaGreat
open Tryz
set_option linter.unusedVariables false
open Go.RowKit
set_option linter.unusedSimpArgs false
