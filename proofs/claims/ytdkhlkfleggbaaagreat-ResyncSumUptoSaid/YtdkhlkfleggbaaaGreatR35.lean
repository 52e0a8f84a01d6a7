/- Layer 27: the reference's Put. Printed by gengsab.py. -/
import Derived.Test.YtdkhlkfleggbaaaGreatR28
namespace Go.Proofs.YtdkhlkfleggbaaaGreat
open Lib (hid)
open Tryz
set_option linter.unusedVariables false
open Go.RowKit
open Go.RowKit Go.Shelf
attribute [local go_sem] Oper.semAt_some
end Go.Proofs.YtdkhlkfleggbaaaGreat
