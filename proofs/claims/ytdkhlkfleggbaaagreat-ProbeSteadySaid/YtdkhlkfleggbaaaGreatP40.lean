/- Layer 24: a text's date, by the reference. -/
import Derived.Test.YtdkhlkfleggbaaaGreatP27
import Derived.Test.YtdkhlkfleggbaaaGreatP17
namespace Go.Proofs.YtdkhlkfleggbaaaGreat
open Lib (hid)
set_option linter.unusedVariables false
open Go.RowKit
end Go.Proofs.YtdkhlkfleggbaaaGreat
