/- Layer 28: two lists, place by place. -/
import Derived.Test.YteofmahbimkggaaDoorMva
namespace Go.Proofs.YteofmahbimkggaaDoor
set_option linter.unusedVariables false
open Go.RowKit

end Go.Proofs.YteofmahbimkggaaDoor
