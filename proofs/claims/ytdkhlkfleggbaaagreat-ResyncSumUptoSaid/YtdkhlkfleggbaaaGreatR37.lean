/- Layer 24: a text's time, by the reference. Printed by genclkk.py. -/
import Derived.Test.YtdkhlkfleggbaaaGreatR27
namespace Go.Proofs.YtdkhlkfleggbaaaGreat
open Lib (hid)
open Tryz
set_option linter.unusedVariables false
open Go.RowKit
end Go.Proofs.YtdkhlkfleggbaaaGreat
