/-
  DERIVED. GIVEN WITH THE SEED: THE CARDS: each row of YtcoohlopafjnmaaDoorRows.lean that lists a variable, with what it lists TIED to the program's text (the seventh form; the later family's looks); each row that meets fmt, with fmt's text TOLD by the authors' own Lean function (tested against real Go, not proved from fmt's source: count such statements apart). THE CARD IS WHAT COUNTS. Prove the row's statement (the work); the ties are given (YtcoohlopafjnmaaDoorTie.lean); close each card by the builder's one call (the guide's Derived/Test/ToyasCard.lean, 'card_holds'). Laid BY PROGRAM, IN A SANDBOX (cutbox-door.mjs). By AI agents, Wed Nov 11 2026. No macro, syntax, notation, axiom, sorry.
-/
import Derived.Test.YtcoohlopafjnmaaDoorRows
import GoSem.ClaimSeven
namespace Go.Proofs.YtcoohlopafjnmaaDoor
namespace Rows

/-- THE TIED CARD OF 'landfalllaw28.VtgPuts'. -/
def vtgPutsCard : Claim7 := { stood := { row := vtgPutsRow, standIns := [], harness := (true, "26141f8fe1dc07f63731c6b7342d757795ddb0c15fe35c696beed5b6ee2c786f"), looks := false }, kinds := [], alts := [], laidByText := true, laidKinds := [.data, .pinned], laidTests := true, laidLooks := .later }
def VtgPutsCardSaid : Prop := Claim7.holds Tryd.pinned (.plain (OpenSpec.ofChange vtgPutsSpec)) vtgPutsCard

/-- THE TIED CARD OF 'landfalllaw29.GsvPuts'. -/
def gsvPutsCard : Claim7 := { stood := { row := gsvPutsRow, standIns := [], harness := (true, "26141f8fe1dc07f63731c6b7342d757795ddb0c15fe35c696beed5b6ee2c786f"), looks := false }, kinds := [], alts := [], laidByText := true, laidKinds := [.data, .pinned], laidTests := true, laidLooks := .later }
def GsvPutsCardSaid : Prop := Claim7.holds Tryd.pinned (.plain (OpenSpec.ofChange gsvPutsSpec)) gsvPutsCard

/-- THE TIED CARD OF 'landfalllaw29.GsvBooks'. -/
def gsvBooksCard : Claim7 := { stood := { row := gsvBooksRow, standIns := [], harness := (true, "26141f8fe1dc07f63731c6b7342d757795ddb0c15fe35c696beed5b6ee2c786f"), looks := false }, kinds := [], alts := [], laidByText := true, laidKinds := [.data, .pinned], laidTests := true, laidLooks := .later }
def GsvBooksCardSaid : Prop := Claim7.holds Tryd.pinned (.plain (OpenSpec.ofChange gsvBooksSpec)) gsvBooksCard

/-- THE TIED CARD OF 'landfalllaw29.GsvTogether'. -/
def gsvTogetherCard : Claim7 := { stood := { row := gsvTogetherRow, standIns := [], harness := (true, "26141f8fe1dc07f63731c6b7342d757795ddb0c15fe35c696beed5b6ee2c786f"), looks := false }, kinds := [], alts := [], laidByText := true, laidKinds := [.data, .pinned], laidTests := true, laidLooks := .later }
def GsvTogetherCardSaid : Prop := Claim7.holds Tryd.pinned (.plain (OpenSpec.ofChange gsvTogetherSpec)) gsvTogetherCard

/-- THE TIED CARD OF 'landfalllaw29.GsvNil'. -/
def gsvNilCard : Claim7 := { stood := { row := gsvNilRow, standIns := [], harness := (true, "26141f8fe1dc07f63731c6b7342d757795ddb0c15fe35c696beed5b6ee2c786f"), looks := false }, kinds := [], alts := [], laidByText := true, laidKinds := [.data, .pinned], laidTests := true, laidLooks := .later }
def GsvNilCardSaid : Prop := Claim7.holds Tryd.pinned (.plain (OpenSpec.ofChange gsvNilSpec)) gsvNilCard

/-- THE TIED CARD OF 'landfalllaw27.GsaPuts'. -/
def gsaPutsCard : Claim7 := { stood := { row := gsaPutsRow, standIns := [], harness := (true, "26141f8fe1dc07f63731c6b7342d757795ddb0c15fe35c696beed5b6ee2c786f"), looks := false }, kinds := [], alts := [], laidByText := true, laidKinds := [.data, .pinned], laidTests := true, laidLooks := .later }
def GsaPutsCardSaid : Prop := Claim7.holds Tryd.pinned (.plain (OpenSpec.ofChange gsaPutsSpec)) gsaPutsCard

/-- THE TIED CARD OF 'landfalllaw27.GsaBack'. -/
def gsaBackCard : Claim7 := { stood := { row := gsaBackRow, standIns := [], harness := (true, "26141f8fe1dc07f63731c6b7342d757795ddb0c15fe35c696beed5b6ee2c786f"), looks := false }, kinds := [], alts := [], laidByText := true, laidKinds := [.data, .pinned], laidTests := true, laidLooks := .later }
def GsaBackCardSaid : Prop := Claim7.holds Tryd.pinned (.plain (OpenSpec.ofChange gsaBackSpec)) gsaBackCard

/-- THE TIED CARD OF 'landfalllaw28.VtgTakes'. -/
def vtgTakesCard : Claim7 := { stood := { row := vtgTakesRow, standIns := [], harness := (true, "26141f8fe1dc07f63731c6b7342d757795ddb0c15fe35c696beed5b6ee2c786f"), looks := false }, kinds := [], alts := [], laidByText := true, laidKinds := [.data, .pinned], laidTests := true, laidLooks := .later }
def VtgTakesCardSaid : Prop := Claim7.holds Tryd.pinned (.plain (OpenSpec.ofChange vtgTakesSpec)) vtgTakesCard

/-- THE TIED CARD OF 'landfalllaw28.VtgBack'. -/
def vtgBackCard : Claim7 := { stood := { row := vtgBackRow, standIns := [], harness := (true, "26141f8fe1dc07f63731c6b7342d757795ddb0c15fe35c696beed5b6ee2c786f"), looks := false }, kinds := [], alts := [], laidByText := true, laidKinds := [.data, .pinned], laidTests := true, laidLooks := .later }
def VtgBackCardSaid : Prop := Claim7.holds Tryd.pinned (.plain (OpenSpec.ofChange vtgBackSpec)) vtgBackCard

/-- THE TIED CARD OF 'landfalllaw29.GsvTakes'. -/
def gsvTakesCard : Claim7 := { stood := { row := gsvTakesRow, standIns := [], harness := (true, "26141f8fe1dc07f63731c6b7342d757795ddb0c15fe35c696beed5b6ee2c786f"), looks := false }, kinds := [], alts := [], laidByText := true, laidKinds := [.data, .pinned], laidTests := true, laidLooks := .later }
def GsvTakesCardSaid : Prop := Claim7.holds Tryd.pinned (.plain (OpenSpec.ofChange gsvTakesSpec)) gsvTakesCard

/-- THE TIED CARD OF 'landfalllaw29.GsvBack'. -/
def gsvBackCard : Claim7 := { stood := { row := gsvBackRow, standIns := [], harness := (true, "26141f8fe1dc07f63731c6b7342d757795ddb0c15fe35c696beed5b6ee2c786f"), looks := false }, kinds := [], alts := [], laidByText := true, laidKinds := [.data, .pinned], laidTests := true, laidLooks := .later }
def GsvBackCardSaid : Prop := Claim7.holds Tryd.pinned (.plain (OpenSpec.ofChange gsvBackSpec)) gsvBackCard

/-- THE SECOND FORM's CARD OF 'landfalllaw28.VtgPuts'. -/
def vtgPutsUptoCard : Claim7 := { stood := { row := vtgPutsUptoRow, standIns := [], harness := (true, "26141f8fe1dc07f63731c6b7342d757795ddb0c15fe35c696beed5b6ee2c786f"), looks := false }, kinds := [], alts := [], laidByText := true, laidKinds := [.data, .pinned], laidTests := true, laidLooks := .later }
def VtgPutsUptoCardSaid : Prop := Claim7.holds Tryd.pinned (.plain (OpenSpec.upto vtgPutsSpec)) vtgPutsUptoCard

/-- THE SECOND FORM's CARD OF 'landfalllaw29.GsvPuts'. -/
def gsvPutsUptoCard : Claim7 := { stood := { row := gsvPutsUptoRow, standIns := [], harness := (true, "26141f8fe1dc07f63731c6b7342d757795ddb0c15fe35c696beed5b6ee2c786f"), looks := false }, kinds := [], alts := [], laidByText := true, laidKinds := [.data, .pinned], laidTests := true, laidLooks := .later }
def GsvPutsUptoCardSaid : Prop := Claim7.holds Tryd.pinned (.plain (OpenSpec.upto gsvPutsSpec)) gsvPutsUptoCard

/-- THE SECOND FORM's CARD OF 'landfalllaw29.GsvBooks'. -/
def gsvBooksUptoCard : Claim7 := { stood := { row := gsvBooksUptoRow, standIns := [], harness := (true, "26141f8fe1dc07f63731c6b7342d757795ddb0c15fe35c696beed5b6ee2c786f"), looks := false }, kinds := [], alts := [], laidByText := true, laidKinds := [.data, .pinned], laidTests := true, laidLooks := .later }
def GsvBooksUptoCardSaid : Prop := Claim7.holds Tryd.pinned (.plain (OpenSpec.upto gsvBooksSpec)) gsvBooksUptoCard

/-- THE SECOND FORM's CARD OF 'landfalllaw29.GsvTogether'. -/
def gsvTogetherUptoCard : Claim7 := { stood := { row := gsvTogetherUptoRow, standIns := [], harness := (true, "26141f8fe1dc07f63731c6b7342d757795ddb0c15fe35c696beed5b6ee2c786f"), looks := false }, kinds := [], alts := [], laidByText := true, laidKinds := [.data, .pinned], laidTests := true, laidLooks := .later }
def GsvTogetherUptoCardSaid : Prop := Claim7.holds Tryd.pinned (.plain (OpenSpec.upto gsvTogetherSpec)) gsvTogetherUptoCard

/-- THE SECOND FORM's CARD OF 'landfalllaw29.GsvNil'. -/
def gsvNilUptoCard : Claim7 := { stood := { row := gsvNilUptoRow, standIns := [], harness := (true, "26141f8fe1dc07f63731c6b7342d757795ddb0c15fe35c696beed5b6ee2c786f"), looks := false }, kinds := [], alts := [], laidByText := true, laidKinds := [.data, .pinned], laidTests := true, laidLooks := .later }
def GsvNilUptoCardSaid : Prop := Claim7.holds Tryd.pinned (.plain (OpenSpec.upto gsvNilSpec)) gsvNilUptoCard

/-- THE SECOND FORM's CARD OF 'landfalllaw27.GsaPuts'. -/
def gsaPutsUptoCard : Claim7 := { stood := { row := gsaPutsUptoRow, standIns := [], harness := (true, "26141f8fe1dc07f63731c6b7342d757795ddb0c15fe35c696beed5b6ee2c786f"), looks := false }, kinds := [], alts := [], laidByText := true, laidKinds := [.data, .pinned], laidTests := true, laidLooks := .later }
def GsaPutsUptoCardSaid : Prop := Claim7.holds Tryd.pinned (.plain (OpenSpec.upto gsaPutsSpec)) gsaPutsUptoCard

/-- THE SECOND FORM's CARD OF 'landfalllaw27.GsaBack'. -/
def gsaBackUptoCard : Claim7 := { stood := { row := gsaBackUptoRow, standIns := [], harness := (true, "26141f8fe1dc07f63731c6b7342d757795ddb0c15fe35c696beed5b6ee2c786f"), looks := false }, kinds := [], alts := [], laidByText := true, laidKinds := [.data, .pinned], laidTests := true, laidLooks := .later }
def GsaBackUptoCardSaid : Prop := Claim7.holds Tryd.pinned (.plain (OpenSpec.upto gsaBackSpec)) gsaBackUptoCard

/-- THE SECOND FORM's CARD OF 'landfalllaw28.VtgTakes'. -/
def vtgTakesUptoCard : Claim7 := { stood := { row := vtgTakesUptoRow, standIns := [], harness := (true, "26141f8fe1dc07f63731c6b7342d757795ddb0c15fe35c696beed5b6ee2c786f"), looks := false }, kinds := [], alts := [], laidByText := true, laidKinds := [.data, .pinned], laidTests := true, laidLooks := .later }
def VtgTakesUptoCardSaid : Prop := Claim7.holds Tryd.pinned (.plain (OpenSpec.upto vtgTakesSpec)) vtgTakesUptoCard

/-- THE SECOND FORM's CARD OF 'landfalllaw28.VtgBack'. -/
def vtgBackUptoCard : Claim7 := { stood := { row := vtgBackUptoRow, standIns := [], harness := (true, "26141f8fe1dc07f63731c6b7342d757795ddb0c15fe35c696beed5b6ee2c786f"), looks := false }, kinds := [], alts := [], laidByText := true, laidKinds := [.data, .pinned], laidTests := true, laidLooks := .later }
def VtgBackUptoCardSaid : Prop := Claim7.holds Tryd.pinned (.plain (OpenSpec.upto vtgBackSpec)) vtgBackUptoCard

/-- THE SECOND FORM's CARD OF 'landfalllaw29.GsvTakes'. -/
def gsvTakesUptoCard : Claim7 := { stood := { row := gsvTakesUptoRow, standIns := [], harness := (true, "26141f8fe1dc07f63731c6b7342d757795ddb0c15fe35c696beed5b6ee2c786f"), looks := false }, kinds := [], alts := [], laidByText := true, laidKinds := [.data, .pinned], laidTests := true, laidLooks := .later }
def GsvTakesUptoCardSaid : Prop := Claim7.holds Tryd.pinned (.plain (OpenSpec.upto gsvTakesSpec)) gsvTakesUptoCard

/-- THE SECOND FORM's CARD OF 'landfalllaw29.GsvBack'. -/
def gsvBackUptoCard : Claim7 := { stood := { row := gsvBackUptoRow, standIns := [], harness := (true, "26141f8fe1dc07f63731c6b7342d757795ddb0c15fe35c696beed5b6ee2c786f"), looks := false }, kinds := [], alts := [], laidByText := true, laidKinds := [.data, .pinned], laidTests := true, laidLooks := .later }
def GsvBackUptoCardSaid : Prop := Claim7.holds Tryd.pinned (.plain (OpenSpec.upto gsvBackSpec)) gsvBackUptoCard
end Rows
end Go.Proofs.YtcoohlopafjnmaaDoor
