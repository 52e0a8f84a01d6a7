/- Layer 24: a text's time, by the reference: eight bytes. Printed by genclkk.py. -/
import Derived.Test.YtdkhlkfleggbaaaGreatP37
namespace Go.Proofs.YtdkhlkfleggbaaaGreat
open Lib (hid)
set_option linter.unusedVariables false
open Go.RowKit
end Go.Proofs.YtdkhlkfleggbaaaGreat
