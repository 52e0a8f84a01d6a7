/- Layer 23: pens and eyes that there are not, or that no call made. -/
import Derived.Test.YtdkhlkfleggbaaaGreatR12
import Derived.Deep.RegionWith
namespace Go.Proofs.YtdkhlkfleggbaaaGreat
open Lib (hid)
open Tryz
set_option linter.unusedVariables false
open Go.RowKit
end Go.Proofs.YtdkhlkfleggbaaaGreat
