/- Layer 25: the reference's Put. Printed by genggab.py. -/
import Derived.Test.YtfgopmfaeooadaaGreatDoorMzf
namespace Go.Proofs.YtfgopmfaeooadaaGreatDoor
set_option linter.unusedVariables false
open Go.RowKit

theorem Alike.text {s t : Rd} (h : Alike s t) (a : ByteArray) (E : Int) : Alike (wrText a E s) (wrText a E t) :=
  ⟨by unfold wrText; rw [h.1], fun q => by unfold wrText; rw [h.2 (firstE_zero q).1]⟩
end Go.Proofs.YtfgopmfaeooadaaGreatDoor
