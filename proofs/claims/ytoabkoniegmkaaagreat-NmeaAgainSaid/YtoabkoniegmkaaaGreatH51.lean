/- Arguments opened: slices of texts, sentences. -/
import Derived.Test.YtoabkoniegmkaaaGreatH00
import Derived.ProofKit
import Derived.SliceStrings
import Derived.Lib.SmallJoins
namespace Go.Proofs.YtoabkoniegmkaaaGreat
set_option linter.unusedVariables false
open Go.ChangeShapes Go.WideShapes Go.ChangeAt Go.RowKit Go.Joins Go.Deep
section
variable {H : Type} {enc : TypeId × Value → H} {P : Program} {w : World} {base : Nat} {spare : Nat → Bool} {held : Bool}
end
end Go.Proofs.YtoabkoniegmkaaaGreat
