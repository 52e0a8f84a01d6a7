/- Layer 28: two lists, place by place. -/
import Derived.Test.YtcoohlopafjnmaaMva
namespace Go.Proofs.Ytcoohlopafjnmaa
set_option linter.unusedVariables false
open Go.RowKit

end Go.Proofs.Ytcoohlopafjnmaa
