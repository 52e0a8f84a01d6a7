/- Contracts of strings.Builder at this program: copyCheck, WriteByte, WriteString, String, of a builder that the call itself has made. (Turned from the shelf's own walks of these methods, which lay at other bodies.) -/
import Derived.Test.YtaiepcgfofpmjaaGreatProg
import Derived.Test.YtaiepcgfofpmjaaGreatN00
import Derived.Lib.Builder
import Derived.Lib.AppendStr
import Derived.Lib.UnsafeStr
import Derived.Lib.Strings
import Derived.Laws.Externs
import Derived.Test.YtaiepcgfofpmjaaGreatN17
import Derived.Test.YtaiepcgfofpmjaaGreatN18
namespace Go.Proofs.YtaiepcgfofpmjaaGreat
set_option linter.unusedVariables false
open Go.RowKit
end Go.Proofs.YtaiepcgfofpmjaaGreat
