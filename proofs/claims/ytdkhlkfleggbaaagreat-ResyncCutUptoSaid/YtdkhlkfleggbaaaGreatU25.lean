/- Parts. -/
import Derived.Test.YtdkhlkfleggbaaaGreatU22
namespace Go.Proofs.YtdkhlkfleggbaaaGreat
open Lib (hid)
open Tryz
set_option linter.unusedVariables false
open Go.RowKit
open Go.RowKit Go.Shelf
attribute [local go_sem] Oper.semAt_some
open Go.RowKit Go.Shelf
attribute [local go_sem] Oper.semAt_some
theorem alc:(prog.info? 150).map (·.size)=some 3:=by kernel_rfl
