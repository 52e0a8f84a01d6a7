/- Layer 27: Put. -/
import Derived.Test.YtoabkoniegmkaaaGreatG34
namespace Go.Proofs.YtoabkoniegmkaaaGreat
set_option linter.unusedVariables false
open Go.RowKit Go.Shelf
attribute [local go_sem] Oper.semAt_some
end Go.Proofs.YtoabkoniegmkaaaGreat
