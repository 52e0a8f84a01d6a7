/- Layer 25: Put. Printed by genggap.py. -/
import Derived.Test.YtdkhlkfleggbaaaGreatR25
namespace Go.Proofs.YtdkhlkfleggbaaaGreat
open Lib (hid)
open Tryz
set_option linter.unusedVariables false
open Go.RowKit
end Go.Proofs.YtdkhlkfleggbaaaGreat
