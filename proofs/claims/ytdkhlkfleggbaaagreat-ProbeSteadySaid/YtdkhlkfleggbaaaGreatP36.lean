/- Layer 27: Put. -/
import Derived.Test.YtdkhlkfleggbaaaGreatP35
import Derived.Test.YtdkhlkfleggbaaaGreatP31
import Derived.Test.YtdkhlkfleggbaaaGreatP26
import Derived.Test.YtdkhlkfleggbaaaGreatP30
import Derived.Test.YtdkhlkfleggbaaaGreatP20
import Derived.Test.YtdkhlkfleggbaaaGreatP18
namespace Go.Proofs.YtdkhlkfleggbaaaGreat
open Lib (hid)
set_option linter.unusedVariables false
open Go.RowKit
open Go.RowKit Go.Shelf
attribute [local go_sem] Oper.semAt_some
theorem aiy:(Tryz.prog.info? 150).map (·.size)=some 3:=by kernel_rfl
end Go.Proofs.YtdkhlkfleggbaaaGreat
