/- Parts. -/
import Derived.OrdersIn
import Derived.Test.YtdkhlkfleggbaaaGreatU34
namespace Go.Proofs.YtdkhlkfleggbaaaGreat
open Lib (hid)
open Tryz
set_option linter.unusedVariables false
open Go.RowKit
section
variable {P : Program} {ops : Array Oper} {a : Act} {w : World} {r : Option Nat} {n : Nat} {Q : Exit → Act → World → Prop} {md : Region.Mode}
end
attribute [local go_sem] Oper.semAt_some
open Go.RowKit Go.Shelf
attribute [local go_sem] Oper.semAt_some
open Go.RowKit Go.Shelf
attribute [local go_sem] Oper.semAt_some
open Go.RowKit Go.Shelf
attribute [local go_sem] Oper.semAt_some
