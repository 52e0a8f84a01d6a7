/- Contracts of strings.Builder at this program: copyCheck, WriteByte, WriteString, String, of a builder that the call itself has made. (Turned from the shelf's own walks of these methods, which lay at other bodies.) -/
import Derived.Test.YtdkhlkfleggbaaaGreatR00
import Derived.Lib.Builder
import Derived.Lib.AppendStr
import Derived.Lib.UnsafeStr
import Derived.Lib.Strings
import Derived.Laws.Externs
namespace Go.Proofs.YtdkhlkfleggbaaaGreat
open Lib (hid)
open Tryz
set_option linter.unusedVariables false
open Go.RowKit
end Go.Proofs.YtdkhlkfleggbaaaGreat
