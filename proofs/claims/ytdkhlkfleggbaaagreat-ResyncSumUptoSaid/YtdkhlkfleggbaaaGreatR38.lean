/- Layer 24: a text's time, by the reference: eight bytes. Printed by genclkk.py. -/
import Derived.Test.YtdkhlkfleggbaaaGreatR37
namespace Go.Proofs.YtdkhlkfleggbaaaGreat
open Lib (hid)
open Tryz
set_option linter.unusedVariables false
open Go.RowKit
end Go.Proofs.YtdkhlkfleggbaaaGreat
