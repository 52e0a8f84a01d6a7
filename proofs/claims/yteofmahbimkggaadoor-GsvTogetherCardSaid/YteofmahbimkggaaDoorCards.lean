/-
  DERIVED. GIVEN WITH THE SEED: THE CARDS: each row of YteofmahbimkggaaDoorRows.lean that lists a variable, with what it lists TIED to the program's text (the seventh form; the later family's looks); each row that meets fmt, with fmt's text TOLD by the authors' own Lean function (tested against real Go, not proved from fmt's source: count such statements apart). THE CARD IS WHAT COUNTS. Prove the row's statement (the work); the ties are given (YteofmahbimkggaaDoorTie.lean); close each card by the builder's one call (the guide's Derived/Test/ToyasCard.lean, 'card_holds'). Laid BY PROGRAM, IN A SANDBOX (cutbox-door.mjs). By AI agents, Wed Nov 11 2026. No macro, syntax, notation, axiom, sorry.
-/
import Derived.Test.YteofmahbimkggaaDoorRows
import GoSem.ClaimSeven
namespace Go.Proofs.YteofmahbimkggaaDoor
namespace Rows

/-- THE TIED CARD OF 'landfalllaw29.GsvBooks'. -/
def gsvBooksCard : Claim7 := { stood := { row := gsvBooksRow, standIns := [], harness := (true, "398752aee3696d5cfd42a2e53e3cc4e54768a23392a7950b7140594a335f19b4"), looks := false }, kinds := [], alts := [], laidByText := true, laidKinds := [.data, .pinned], laidTests := true, laidLooks := .later }
def GsvBooksCardSaid : Prop := Claim7.holds Tryd.pinned (.plain (OpenSpec.ofChange gsvBooksSpec)) gsvBooksCard

/-- THE TIED CARD OF 'landfalllaw29.GsvTogether'. -/
def gsvTogetherCard : Claim7 := { stood := { row := gsvTogetherRow, standIns := [], harness := (true, "398752aee3696d5cfd42a2e53e3cc4e54768a23392a7950b7140594a335f19b4"), looks := false }, kinds := [], alts := [], laidByText := true, laidKinds := [.data, .pinned], laidTests := true, laidLooks := .later }
def GsvTogetherCardSaid : Prop := Claim7.holds Tryd.pinned (.plain (OpenSpec.ofChange gsvTogetherSpec)) gsvTogetherCard

/-- THE SECOND FORM's CARD OF 'landfalllaw29.GsvBooks'. -/
def gsvBooksUptoCard : Claim7 := { stood := { row := gsvBooksUptoRow, standIns := [], harness := (true, "398752aee3696d5cfd42a2e53e3cc4e54768a23392a7950b7140594a335f19b4"), looks := false }, kinds := [], alts := [], laidByText := true, laidKinds := [.data, .pinned], laidTests := true, laidLooks := .later }
def GsvBooksUptoCardSaid : Prop := Claim7.holds Tryd.pinned (.plain (OpenSpec.upto gsvBooksSpec)) gsvBooksUptoCard

/-- THE SECOND FORM's CARD OF 'landfalllaw29.GsvTogether'. -/
def gsvTogetherUptoCard : Claim7 := { stood := { row := gsvTogetherUptoRow, standIns := [], harness := (true, "398752aee3696d5cfd42a2e53e3cc4e54768a23392a7950b7140594a335f19b4"), looks := false }, kinds := [], alts := [], laidByText := true, laidKinds := [.data, .pinned], laidTests := true, laidLooks := .later }
def GsvTogetherUptoCardSaid : Prop := Claim7.holds Tryd.pinned (.plain (OpenSpec.upto gsvTogetherSpec)) gsvTogetherUptoCard
end Rows
end Go.Proofs.YteofmahbimkggaaDoor
