/- Layer 23: pens and eyes that there are not, or that no call made. -/
import Derived.Test.YtdkhlkfleggbaaaGreatP12
import Derived.Deep.RegionHeld3
import Derived.Deep.RegionWith
import Derived.Deep.DeepCutAuto
namespace Go.Proofs.YtdkhlkfleggbaaaGreat
open Lib (hid)
set_option linter.unusedVariables false
open Go.RowKit
end Go.Proofs.YtdkhlkfleggbaaaGreat
