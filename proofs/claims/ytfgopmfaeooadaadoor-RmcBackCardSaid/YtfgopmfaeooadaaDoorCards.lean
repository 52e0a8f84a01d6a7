/-
  DERIVED. GIVEN WITH THE SEED: THE CARDS: each row of YtfgopmfaeooadaaDoorRows.lean that lists a variable, with what it lists TIED to the program's text (the seventh form; the later family's looks); each row that meets fmt, with fmt's text TOLD by the authors' own Lean function (tested against real Go, not proved from fmt's source: count such statements apart). THE CARD IS WHAT COUNTS. Prove the row's statement (the work); the ties are given (YtfgopmfaeooadaaDoorTie.lean); close each card by the builder's one call (the guide's Derived/Test/ToyasCard.lean, 'card_holds'). Laid BY PROGRAM, IN A SANDBOX (cutbox-door.mjs). By AI agents, Wed Nov 11 2026. No macro, syntax, notation, axiom, sorry.
-/
import Derived.Test.YtfgopmfaeooadaaDoorRows
import GoSem.ClaimSeven
namespace Go.Proofs.YtfgopmfaeooadaaDoor
namespace Rows

/-- THE TIED CARD OF 'landfalllaw25.GgaTakes'. -/
def ggaTakesCard : Claim7 := { stood := { row := ggaTakesRow, standIns := [], harness := (true, "700f09f6ce070ef282af5f65bc40d005f835afd7612cfdb96fd7d39a01ebef45"), looks := false }, kinds := [], alts := [], laidByText := true, laidKinds := [.data, .pinned], laidTests := true, laidLooks := .later }
def GgaTakesCardSaid : Prop := Claim7.holds Tryd.pinned (.plain (OpenSpec.ofChange ggaTakesSpec)) ggaTakesCard

/-- THE TIED CARD OF 'landfalllaw26.RmcBack'. -/
def rmcBackCard : Claim7 := { stood := { row := rmcBackRow, standIns := [], harness := (true, "700f09f6ce070ef282af5f65bc40d005f835afd7612cfdb96fd7d39a01ebef45"), looks := false }, kinds := [], alts := [], laidByText := true, laidKinds := [.data, .pinned], laidTests := true, laidLooks := .later }
def RmcBackCardSaid : Prop := Claim7.holds Tryd.pinned (.plain (OpenSpec.ofChange rmcBackSpec)) rmcBackCard

/-- THE SECOND FORM's CARD OF 'landfalllaw25.GgaTakes'. -/
def ggaTakesUptoCard : Claim7 := { stood := { row := ggaTakesUptoRow, standIns := [], harness := (true, "700f09f6ce070ef282af5f65bc40d005f835afd7612cfdb96fd7d39a01ebef45"), looks := false }, kinds := [], alts := [], laidByText := true, laidKinds := [.data, .pinned], laidTests := true, laidLooks := .later }
def GgaTakesUptoCardSaid : Prop := Claim7.holds Tryd.pinned (.plain (OpenSpec.upto ggaTakesSpec)) ggaTakesUptoCard

/-- THE SECOND FORM's CARD OF 'landfalllaw26.RmcBack'. -/
def rmcBackUptoCard : Claim7 := { stood := { row := rmcBackUptoRow, standIns := [], harness := (true, "700f09f6ce070ef282af5f65bc40d005f835afd7612cfdb96fd7d39a01ebef45"), looks := false }, kinds := [], alts := [], laidByText := true, laidKinds := [.data, .pinned], laidTests := true, laidLooks := .later }
def RmcBackUptoCardSaid : Prop := Claim7.holds Tryd.pinned (.plain (OpenSpec.upto rmcBackSpec)) rmcBackUptoCard
end Rows
end Go.Proofs.YtfgopmfaeooadaaDoor
