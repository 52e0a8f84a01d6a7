/- Parts. -/
import Derived.Test.YtdkhlkfleggbaaaGreatV00
import Derived.Lib.Builder
import Derived.Lib.AppendStr
import Derived.Lib.UnsafeStr
import Derived.Lib.Strings
import Derived.Laws.Externs
namespace Go.Proofs.YtdkhlkfleggbaaaGreat
open Tryz
set_option linter.unusedVariables false
open Go.RowKit
