/- Layer 23: Num of an eye that there is not, or that no call made. -/
import Derived.Test.YtoabkoniegmkaaaGreatJ04
import Derived.Deep.RegionWith
import Derived.Deep.DeepCutAuto
namespace Go.Proofs.YtoabkoniegmkaaaGreat
set_option linter.unusedVariables false
open Go.RowKit
end Go.Proofs.YtoabkoniegmkaaaGreat
