/-
  DERIVED. GIVEN WITH THE SEED: THE CARDS: each row of YtfgopmfaeooadaaGreatDoorRows.lean that lists a variable, with what it lists TIED to the program's text (the seventh form; the later family's looks); each row that meets fmt, with fmt's text TOLD by the authors' own Lean function (tested against real Go, not proved from fmt's source: count such statements apart). THE CARD IS WHAT COUNTS. Prove the row's statement (the work); the ties are given (YtfgopmfaeooadaaGreatDoorTie.lean); close each card by the builder's one call (the guide's Derived/Test/ToyasCard.lean, 'card_holds'). Laid BY PROGRAM, IN A SANDBOX (cutbox-door.mjs). By AI agents, Wed Nov 11 2026. No macro, syntax, notation, axiom, sorry.
-/
import Derived.Test.YtfgopmfaeooadaaGreatDoorRows
import GoSem.ClaimSeven
namespace Go.Proofs.YtfgopmfaeooadaaGreatDoor
namespace Rows

/-- THE TIED CARD OF 'landfalllaw26.RmcTakes'. -/
def rmcTakesCard : Claim7 := { stood := { row := rmcTakesRow, standIns := [], harness := (true, "7d647da276d9f5266ebfc5d3fe4a0c342e869151de9a0002d8b1927dc9b7a2b0"), looks := false }, kinds := [], alts := [], laidByText := true, laidKinds := [.data, .pinned], laidTests := true, laidLooks := .later }
def RmcTakesCardSaid : Prop := Claim7.holds Tryz.pinned (.plain (OpenSpec.ofChange rmcTakesSpec)) rmcTakesCard

/-- THE TIED CARD OF 'landfalllaw26.RmcPuts'. -/
def rmcPutsCard : Claim7 := { stood := { row := rmcPutsRow, standIns := [], harness := (true, "7d647da276d9f5266ebfc5d3fe4a0c342e869151de9a0002d8b1927dc9b7a2b0"), looks := false }, kinds := [], alts := [], laidByText := true, laidKinds := [.data, .pinned], laidTests := true, laidLooks := .later }
def RmcPutsCardSaid : Prop := Claim7.holds Tryz.pinned (.plain (OpenSpec.ofChange rmcPutsSpec)) rmcPutsCard

/-- THE SECOND FORM's CARD OF 'landfalllaw26.RmcTakes'. -/
def rmcTakesUptoCard : Claim7 := { stood := { row := rmcTakesUptoRow, standIns := [], harness := (true, "7d647da276d9f5266ebfc5d3fe4a0c342e869151de9a0002d8b1927dc9b7a2b0"), looks := false }, kinds := [], alts := [], laidByText := true, laidKinds := [.data, .pinned], laidTests := true, laidLooks := .later }
def RmcTakesUptoCardSaid : Prop := Claim7.holds Tryz.pinned (.plain (OpenSpec.upto rmcTakesSpec)) rmcTakesUptoCard

/-- THE SECOND FORM's CARD OF 'landfalllaw26.RmcPuts'. -/
def rmcPutsUptoCard : Claim7 := { stood := { row := rmcPutsUptoRow, standIns := [], harness := (true, "7d647da276d9f5266ebfc5d3fe4a0c342e869151de9a0002d8b1927dc9b7a2b0"), looks := false }, kinds := [], alts := [], laidByText := true, laidKinds := [.data, .pinned], laidTests := true, laidLooks := .later }
def RmcPutsUptoCardSaid : Prop := Claim7.holds Tryz.pinned (.plain (OpenSpec.upto rmcPutsSpec)) rmcPutsUptoCard
end Rows
end Go.Proofs.YtfgopmfaeooadaaGreatDoor
