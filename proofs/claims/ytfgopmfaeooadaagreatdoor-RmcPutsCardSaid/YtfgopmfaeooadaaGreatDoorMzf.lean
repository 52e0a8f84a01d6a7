/- Layer 25: Put. Printed by genggap.py. -/
import Derived.Test.YtfgopmfaeooadaaGreatDoorMze
namespace Go.Proofs.YtfgopmfaeooadaaGreatDoor
set_option linter.unusedVariables false
open Go.RowKit

end Go.Proofs.YtfgopmfaeooadaaGreatDoor
