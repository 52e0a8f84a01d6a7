/-
  DERIVED. GIVEN WITH THE SEED: THE CARDS: each row of YtkjmcgjlkheamaaDoorRows.lean that lists a variable, with what it lists TIED to the program's text (the seventh form; the later family's looks); each row that meets fmt, with fmt's text TOLD by the authors' own Lean function (tested against real Go, not proved from fmt's source: count such statements apart). THE CARD IS WHAT COUNTS. Prove the row's statement (the work); the ties are given (YtkjmcgjlkheamaaDoorTie.lean); close each card by the builder's one call (the guide's Derived/Test/ToyasCard.lean, 'card_holds'). Laid BY PROGRAM, IN A SANDBOX (cutbox-door.mjs). By AI agents, Wed Nov 11 2026. No macro, syntax, notation, axiom, sorry.
-/
import Derived.Test.YtkjmcgjlkheamaaDoorRows
import GoSem.ClaimSeven
namespace Go.Proofs.YtkjmcgjlkheamaaDoor
namespace Rows

/-- THE TIED CARD OF 'landfalllaw25.GgaPuts'. -/
def ggaPutsCard : Claim7 := { stood := { row := ggaPutsRow, standIns := [], harness := (true, "fb9e731998b88096493358250aba86c38ba74fe025d01c1adff963b1f578779c"), looks := false }, kinds := [], alts := [], laidByText := true, laidKinds := [.data, .pinned], laidTests := true, laidLooks := .later }
def GgaPutsCardSaid : Prop := Claim7.holds Tryd.pinned (.plain (OpenSpec.ofChange ggaPutsSpec)) ggaPutsCard

/-- THE TIED CARD OF 'landfalllaw25.GgaTakes'. -/
def ggaTakesCard : Claim7 := { stood := { row := ggaTakesRow, standIns := [], harness := (true, "fb9e731998b88096493358250aba86c38ba74fe025d01c1adff963b1f578779c"), looks := false }, kinds := [], alts := [], laidByText := true, laidKinds := [.data, .pinned], laidTests := true, laidLooks := .later }
def GgaTakesCardSaid : Prop := Claim7.holds Tryd.pinned (.plain (OpenSpec.ofChange ggaTakesSpec)) ggaTakesCard

/-- THE TIED CARD OF 'landfalllaw25.GgaBack'. -/
def ggaBackCard : Claim7 := { stood := { row := ggaBackRow, standIns := [], harness := (true, "fb9e731998b88096493358250aba86c38ba74fe025d01c1adff963b1f578779c"), looks := false }, kinds := [], alts := [], laidByText := true, laidKinds := [.data, .pinned], laidTests := true, laidLooks := .later }
def GgaBackCardSaid : Prop := Claim7.holds Tryd.pinned (.plain (OpenSpec.ofChange ggaBackSpec)) ggaBackCard

/-- THE TIED CARD OF 'landfalllaw26.RmcBack'. -/
def rmcBackCard : Claim7 := { stood := { row := rmcBackRow, standIns := [], harness := (true, "fb9e731998b88096493358250aba86c38ba74fe025d01c1adff963b1f578779c"), looks := false }, kinds := [], alts := [], laidByText := true, laidKinds := [.data, .pinned], laidTests := true, laidLooks := .later }
def RmcBackCardSaid : Prop := Claim7.holds Tryd.pinned (.plain (OpenSpec.ofChange rmcBackSpec)) rmcBackCard

/-- THE TIED CARD OF 'landfalllaw27.GsaPuts'. -/
def gsaPutsCard : Claim7 := { stood := { row := gsaPutsRow, standIns := [], harness := (true, "fb9e731998b88096493358250aba86c38ba74fe025d01c1adff963b1f578779c"), looks := false }, kinds := [], alts := [], laidByText := true, laidKinds := [.data, .pinned], laidTests := true, laidLooks := .later }
def GsaPutsCardSaid : Prop := Claim7.holds Tryd.pinned (.plain (OpenSpec.ofChange gsaPutsSpec)) gsaPutsCard

/-- THE TIED CARD OF 'landfalllaw27.GsaBack'. -/
def gsaBackCard : Claim7 := { stood := { row := gsaBackRow, standIns := [], harness := (true, "fb9e731998b88096493358250aba86c38ba74fe025d01c1adff963b1f578779c"), looks := false }, kinds := [], alts := [], laidByText := true, laidKinds := [.data, .pinned], laidTests := true, laidLooks := .later }
def GsaBackCardSaid : Prop := Claim7.holds Tryd.pinned (.plain (OpenSpec.ofChange gsaBackSpec)) gsaBackCard

/-- THE SECOND FORM's CARD OF 'landfalllaw25.GgaPuts'. -/
def ggaPutsUptoCard : Claim7 := { stood := { row := ggaPutsUptoRow, standIns := [], harness := (true, "fb9e731998b88096493358250aba86c38ba74fe025d01c1adff963b1f578779c"), looks := false }, kinds := [], alts := [], laidByText := true, laidKinds := [.data, .pinned], laidTests := true, laidLooks := .later }
def GgaPutsUptoCardSaid : Prop := Claim7.holds Tryd.pinned (.plain (OpenSpec.upto ggaPutsSpec)) ggaPutsUptoCard

/-- THE SECOND FORM's CARD OF 'landfalllaw25.GgaTakes'. -/
def ggaTakesUptoCard : Claim7 := { stood := { row := ggaTakesUptoRow, standIns := [], harness := (true, "fb9e731998b88096493358250aba86c38ba74fe025d01c1adff963b1f578779c"), looks := false }, kinds := [], alts := [], laidByText := true, laidKinds := [.data, .pinned], laidTests := true, laidLooks := .later }
def GgaTakesUptoCardSaid : Prop := Claim7.holds Tryd.pinned (.plain (OpenSpec.upto ggaTakesSpec)) ggaTakesUptoCard

/-- THE SECOND FORM's CARD OF 'landfalllaw25.GgaBack'. -/
def ggaBackUptoCard : Claim7 := { stood := { row := ggaBackUptoRow, standIns := [], harness := (true, "fb9e731998b88096493358250aba86c38ba74fe025d01c1adff963b1f578779c"), looks := false }, kinds := [], alts := [], laidByText := true, laidKinds := [.data, .pinned], laidTests := true, laidLooks := .later }
def GgaBackUptoCardSaid : Prop := Claim7.holds Tryd.pinned (.plain (OpenSpec.upto ggaBackSpec)) ggaBackUptoCard

/-- THE SECOND FORM's CARD OF 'landfalllaw26.RmcBack'. -/
def rmcBackUptoCard : Claim7 := { stood := { row := rmcBackUptoRow, standIns := [], harness := (true, "fb9e731998b88096493358250aba86c38ba74fe025d01c1adff963b1f578779c"), looks := false }, kinds := [], alts := [], laidByText := true, laidKinds := [.data, .pinned], laidTests := true, laidLooks := .later }
def RmcBackUptoCardSaid : Prop := Claim7.holds Tryd.pinned (.plain (OpenSpec.upto rmcBackSpec)) rmcBackUptoCard

/-- THE SECOND FORM's CARD OF 'landfalllaw27.GsaPuts'. -/
def gsaPutsUptoCard : Claim7 := { stood := { row := gsaPutsUptoRow, standIns := [], harness := (true, "fb9e731998b88096493358250aba86c38ba74fe025d01c1adff963b1f578779c"), looks := false }, kinds := [], alts := [], laidByText := true, laidKinds := [.data, .pinned], laidTests := true, laidLooks := .later }
def GsaPutsUptoCardSaid : Prop := Claim7.holds Tryd.pinned (.plain (OpenSpec.upto gsaPutsSpec)) gsaPutsUptoCard

/-- THE SECOND FORM's CARD OF 'landfalllaw27.GsaBack'. -/
def gsaBackUptoCard : Claim7 := { stood := { row := gsaBackUptoRow, standIns := [], harness := (true, "fb9e731998b88096493358250aba86c38ba74fe025d01c1adff963b1f578779c"), looks := false }, kinds := [], alts := [], laidByText := true, laidKinds := [.data, .pinned], laidTests := true, laidLooks := .later }
def GsaBackUptoCardSaid : Prop := Claim7.holds Tryd.pinned (.plain (OpenSpec.upto gsaBackSpec)) gsaBackUptoCard
end Rows
end Go.Proofs.YtkjmcgjlkheamaaDoor
