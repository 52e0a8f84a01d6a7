/- Layer 25: the eye's time, digit, unit. Printed by genggae.py. -/
import Derived.Test.YtfgopmfaeooadaaGreatDoorMzf
import Derived.Test.YtfgopmfaeooadaaGreatDoorMz8
import Derived.Test.YtfgopmfaeooadaaGreatDoorMsa
namespace Go.Proofs.YtfgopmfaeooadaaGreatDoor
set_option linter.unusedVariables false
open Go.RowKit

abbrev eyeV (g : Nat) : Value := .agg #[.pointer (some ⟨g, 0, none⟩)]
theorem eye_text_small {g : Nat} {s t : Rd} {a : ByteArray} {w : World} (ha : Hid (rdText s = (a, t))) (hp : EyeI g s w) : a.size ≤ 1000000 := by
  have := ha.out
  unfold rdText at this
  injection this with e _
  rw [← e]
  exact headD_small hp.choose_spec.2.2
end Go.Proofs.YtfgopmfaeooadaaGreatDoor
