/-
  NARROWER THAN 'FOR EVERY INPUT', by the rows' own cells (each row's printed sentence says how): VtgPuts: laid · GsvPuts: laid · GsvBooks: laid · GsvTogether: laid · GsvNil: laid · GsaPuts: laid · GsaBack: laid · VtgTakes: laid · VtgBack: laid · GsvTakes: laid · GsvBack: laid.
  DERIVED. THE GIVEN ROWS OF THIS SEAT. 11 by the template 'for every input the law returns true; each argument reads behind the call as it read before'; 0 by the template 'total and deterministic' (their statements: YtcoohlopafjnmaaDoorTotals.lean).
  GIVEN WITH THE SEED: the statements are not yours to turn. If you find one false, say at which input.
  Laid BY PROGRAM, IN A SANDBOX (cutbox-rows.mjs): the forced cells as the released guide's own fill.sh prints them over the translation acd523ae436ebcd7… (all of the seat's roots in one cut). By AI agents, Wed Nov 11 2026. No macro, syntax, notation, axiom, sorry.
-/
import Derived.Test.YtcoohlopafjnmaaDoorChecked
import GoSem.PinnedTables
import GoSem.Claim
import GoSem.ClaimJoined
import GoSem.ClaimMapViews
import Derived.JoinedTies
import Derived.KernelRfl
namespace Go.Proofs.YtcoohlopafjnmaaDoor
/- THE CELL 'sum', in the pinned program and in every row, IS THE sha256 OF THE DUMP (.gsa) THAT YtcoohlopafjnmaaDoorProg.lean LOADS. Nothing in Lean hashes anything: it is a label: what it is worth is what the hold of that sum in a sandbox is worth. -/
noncomputable def Tryd.pinned : Pinned := { name := "ytcoohlopafjnmaadoor", sum := "acd523ae436ebcd7c2d4416421c7046c9b49844cd5f8978e2409b06b0d16e525", checked := Tryd.checked }
namespace Rows
def none {H : Type} : Left H := { results := [], args := [] }

/- WHAT THE LISTED PACKAGE-LEVEL VARIABLES READ AS WHEN THE CALL BEGINS. Each datum BY PROGRAM (the guide's laid-datum.mjs) off the statement by which the dump's own 'gosem.cut.vars' lays the variable. In a bare row this is a premise. The card (YtcoohlopafjnmaaDoorCards.lean) ties it to the program's text. -/
def laid_unicode_utf8_acceptRanges {H : Type} : DataW H := .agg [.agg [.lit (.int .u8 128), .lit (.int .u8 191)], .agg [.lit (.int .u8 160), .lit (.int .u8 191)], .agg [.lit (.int .u8 128), .lit (.int .u8 159)], .agg [.lit (.int .u8 144), .lit (.int .u8 191)], .agg [.lit (.int .u8 128), .lit (.int .u8 143)], .agg [.lit (.int .u8 0), .lit (.int .u8 0)], .agg [.lit (.int .u8 0), .lit (.int .u8 0)], .agg [.lit (.int .u8 0), .lit (.int .u8 0)], .agg [.lit (.int .u8 0), .lit (.int .u8 0)], .agg [.lit (.int .u8 0), .lit (.int .u8 0)], .agg [.lit (.int .u8 0), .lit (.int .u8 0)], .agg [.lit (.int .u8 0), .lit (.int .u8 0)], .agg [.lit (.int .u8 0), .lit (.int .u8 0)], .agg [.lit (.int .u8 0), .lit (.int .u8 0)], .agg [.lit (.int .u8 0), .lit (.int .u8 0)], .agg [.lit (.int .u8 0), .lit (.int .u8 0)]]
/-- One of Go's own tables, pinned by name: the form's constant. -/
def laid_unicode_utf8_first : DataW Unit := Go.Pinned.utf8First

/-- 'landfalllaw28.VtgPuts': WHATEVER THE INPUT: true; the input reads as it did. -/
def vtgPutsSpec : ChangeSpec := { name := "vtgPuts", fn := fun _ => fun
  | [d] => { results := [.lit (.bool true)], args := [d] }
  | _ => none }
def vtgPutsRow : OpenClaim := { program := "ytcoohlopafjnmaadoor", sum := "acd523ae436ebcd7c2d4416421c7046c9b49844cd5f8978e2409b06b0d16e525", func := "landfall/landfalllaw28.VtgPuts", spec := "vtgPuts", inPlace := ["internal/bytealg.IndexByteString", "internal/bytealg.IndexString"], unfollowed := true, recurses := true, named := ["unicode/utf8.first", "unicode/utf8.acceptRanges", "internal/bytealg.MaxLen"], apart := false, laid := [("unicode/utf8.acceptRanges", laid_unicode_utf8_acceptRanges), ("unicode/utf8.first", laid_unicode_utf8_first)] }
def VtgPutsSaid : Prop := vtgPutsRow.holds Tryd.pinned (OpenSpec.ofChange vtgPutsSpec)

/-- ITS FALSE NEIGHBOUR: 'it returns false'. Refute it at one input. -/
def vtgPutsWrong : ChangeSpec := { name := "vtgPuts", fn := fun _ => fun
  | [d] => { results := [.lit (.bool false)], args := [d] }
  | _ => none }
def VtgPutsWrongFalsely : Prop := vtgPutsRow.holds Tryd.pinned (OpenSpec.ofChange vtgPutsWrong)

/-- 'landfalllaw29.GsvPuts': WHATEVER THE INPUT: true; the input reads as it did. -/
def gsvPutsSpec : ChangeSpec := { name := "gsvPuts", fn := fun _ => fun
  | [d] => { results := [.lit (.bool true)], args := [d] }
  | _ => none }
def gsvPutsRow : OpenClaim := { program := "ytcoohlopafjnmaadoor", sum := "acd523ae436ebcd7c2d4416421c7046c9b49844cd5f8978e2409b06b0d16e525", func := "landfall/landfalllaw29.GsvPuts", spec := "gsvPuts", inPlace := ["internal/bytealg.IndexByteString", "internal/bytealg.IndexString"], named := ["unicode/utf8.first", "unicode/utf8.acceptRanges", "internal/bytealg.MaxLen"], apart := false, laid := [("unicode/utf8.acceptRanges", laid_unicode_utf8_acceptRanges), ("unicode/utf8.first", laid_unicode_utf8_first)] }
def GsvPutsSaid : Prop := gsvPutsRow.holds Tryd.pinned (OpenSpec.ofChange gsvPutsSpec)

/-- ITS FALSE NEIGHBOUR: 'it returns false'. Refute it at one input. -/
def gsvPutsWrong : ChangeSpec := { name := "gsvPuts", fn := fun _ => fun
  | [d] => { results := [.lit (.bool false)], args := [d] }
  | _ => none }
def GsvPutsWrongFalsely : Prop := gsvPutsRow.holds Tryd.pinned (OpenSpec.ofChange gsvPutsWrong)

/-- 'landfalllaw29.GsvBooks': WHATEVER THE INPUT: true; the input reads as it did. -/
def gsvBooksSpec : ChangeSpec := { name := "gsvBooks", fn := fun _ => fun
  | [d] => { results := [.lit (.bool true)], args := [d] }
  | _ => none }
def gsvBooksRow : OpenClaim := { program := "ytcoohlopafjnmaadoor", sum := "acd523ae436ebcd7c2d4416421c7046c9b49844cd5f8978e2409b06b0d16e525", func := "landfall/landfalllaw29.GsvBooks", spec := "gsvBooks", inPlace := ["internal/bytealg.IndexByteString", "internal/bytealg.IndexString"], named := ["unicode/utf8.first", "unicode/utf8.acceptRanges", "internal/bytealg.MaxLen"], apart := false, laid := [("unicode/utf8.acceptRanges", laid_unicode_utf8_acceptRanges), ("unicode/utf8.first", laid_unicode_utf8_first)] }
def GsvBooksSaid : Prop := gsvBooksRow.holds Tryd.pinned (OpenSpec.ofChange gsvBooksSpec)

/-- ITS FALSE NEIGHBOUR: 'it returns false'. Refute it at one input. -/
def gsvBooksWrong : ChangeSpec := { name := "gsvBooks", fn := fun _ => fun
  | [d] => { results := [.lit (.bool false)], args := [d] }
  | _ => none }
def GsvBooksWrongFalsely : Prop := gsvBooksRow.holds Tryd.pinned (OpenSpec.ofChange gsvBooksWrong)

/-- 'landfalllaw29.GsvTogether': WHATEVER THE INPUT: true; the input reads as it did. -/
def gsvTogetherSpec : ChangeSpec := { name := "gsvTogether", fn := fun _ => fun
  | [d1, d2] => { results := [.lit (.bool true)], args := [d1, d2] }
  | _ => none }
def gsvTogetherRow : OpenClaim := { program := "ytcoohlopafjnmaadoor", sum := "acd523ae436ebcd7c2d4416421c7046c9b49844cd5f8978e2409b06b0d16e525", func := "landfall/landfalllaw29.GsvTogether", spec := "gsvTogether", inPlace := ["internal/bytealg.IndexByteString", "internal/bytealg.IndexString"], named := ["unicode/utf8.first", "unicode/utf8.acceptRanges", "internal/bytealg.MaxLen"], apart := false, laid := [("unicode/utf8.acceptRanges", laid_unicode_utf8_acceptRanges), ("unicode/utf8.first", laid_unicode_utf8_first)] }
def GsvTogetherSaid : Prop := gsvTogetherRow.holds Tryd.pinned (OpenSpec.ofChange gsvTogetherSpec)

/-- ITS FALSE NEIGHBOUR: 'it returns false'. Refute it at one input. -/
def gsvTogetherWrong : ChangeSpec := { name := "gsvTogether", fn := fun _ => fun
  | [d1, d2] => { results := [.lit (.bool false)], args := [d1, d2] }
  | _ => none }
def GsvTogetherWrongFalsely : Prop := gsvTogetherRow.holds Tryd.pinned (OpenSpec.ofChange gsvTogetherWrong)

/-- 'landfalllaw29.GsvNil': WHATEVER THE INPUT: true; the input reads as it did. -/
def gsvNilSpec : ChangeSpec := { name := "gsvNil", fn := fun _ => fun
  | [d] => { results := [.lit (.bool true)], args := [d] }
  | _ => none }
def gsvNilRow : OpenClaim := { program := "ytcoohlopafjnmaadoor", sum := "acd523ae436ebcd7c2d4416421c7046c9b49844cd5f8978e2409b06b0d16e525", func := "landfall/landfalllaw29.GsvNil", spec := "gsvNil", inPlace := ["internal/bytealg.IndexByteString", "internal/bytealg.IndexString"], named := ["unicode/utf8.first", "unicode/utf8.acceptRanges", "internal/bytealg.MaxLen"], apart := false, laid := [("unicode/utf8.acceptRanges", laid_unicode_utf8_acceptRanges), ("unicode/utf8.first", laid_unicode_utf8_first)] }
def GsvNilSaid : Prop := gsvNilRow.holds Tryd.pinned (OpenSpec.ofChange gsvNilSpec)

/-- ITS FALSE NEIGHBOUR: 'it returns false'. Refute it at one input. -/
def gsvNilWrong : ChangeSpec := { name := "gsvNil", fn := fun _ => fun
  | [d] => { results := [.lit (.bool false)], args := [d] }
  | _ => none }
def GsvNilWrongFalsely : Prop := gsvNilRow.holds Tryd.pinned (OpenSpec.ofChange gsvNilWrong)

/-- 'landfalllaw27.GsaPuts': WHATEVER THE INPUT: true; the input reads as it did. -/
def gsaPutsSpec : ChangeSpec := { name := "gsaPuts", fn := fun _ => fun
  | [d] => { results := [.lit (.bool true)], args := [d] }
  | _ => none }
def gsaPutsRow : OpenClaim := { program := "ytcoohlopafjnmaadoor", sum := "acd523ae436ebcd7c2d4416421c7046c9b49844cd5f8978e2409b06b0d16e525", func := "landfall/landfalllaw27.GsaPuts", spec := "gsaPuts", inPlace := ["internal/bytealg.IndexByteString", "internal/bytealg.IndexString"], unfollowed := true, recurses := true, named := ["unicode/utf8.first", "unicode/utf8.acceptRanges", "internal/bytealg.MaxLen"], apart := false, laid := [("unicode/utf8.acceptRanges", laid_unicode_utf8_acceptRanges), ("unicode/utf8.first", laid_unicode_utf8_first)] }
def GsaPutsSaid : Prop := gsaPutsRow.holds Tryd.pinned (OpenSpec.ofChange gsaPutsSpec)

/-- ITS FALSE NEIGHBOUR: 'it returns false'. Refute it at one input. -/
def gsaPutsWrong : ChangeSpec := { name := "gsaPuts", fn := fun _ => fun
  | [d] => { results := [.lit (.bool false)], args := [d] }
  | _ => none }
def GsaPutsWrongFalsely : Prop := gsaPutsRow.holds Tryd.pinned (OpenSpec.ofChange gsaPutsWrong)

/-- 'landfalllaw27.GsaBack': WHATEVER THE INPUT: true; the input reads as it did. -/
def gsaBackSpec : ChangeSpec := { name := "gsaBack", fn := fun _ => fun
  | [d1, d2] => { results := [.lit (.bool true)], args := [d1, d2] }
  | _ => none }
def gsaBackRow : OpenClaim := { program := "ytcoohlopafjnmaadoor", sum := "acd523ae436ebcd7c2d4416421c7046c9b49844cd5f8978e2409b06b0d16e525", func := "landfall/landfalllaw27.GsaBack", spec := "gsaBack", inPlace := ["internal/bytealg.IndexByteString", "internal/bytealg.IndexString"], unfollowed := true, recurses := true, named := ["unicode/utf8.first", "unicode/utf8.acceptRanges", "internal/bytealg.MaxLen"], apart := false, laid := [("unicode/utf8.acceptRanges", laid_unicode_utf8_acceptRanges), ("unicode/utf8.first", laid_unicode_utf8_first)] }
def GsaBackSaid : Prop := gsaBackRow.holds Tryd.pinned (OpenSpec.ofChange gsaBackSpec)

/-- ITS FALSE NEIGHBOUR: 'it returns false'. Refute it at one input. -/
def gsaBackWrong : ChangeSpec := { name := "gsaBack", fn := fun _ => fun
  | [d1, d2] => { results := [.lit (.bool false)], args := [d1, d2] }
  | _ => none }
def GsaBackWrongFalsely : Prop := gsaBackRow.holds Tryd.pinned (OpenSpec.ofChange gsaBackWrong)

/-- 'landfalllaw28.VtgTakes': WHATEVER THE INPUT: true; the input reads as it did. -/
def vtgTakesSpec : ChangeSpec := { name := "vtgTakes", fn := fun _ => fun
  | [d] => { results := [.lit (.bool true)], args := [d] }
  | _ => none }
def vtgTakesRow : OpenClaim := { program := "ytcoohlopafjnmaadoor", sum := "acd523ae436ebcd7c2d4416421c7046c9b49844cd5f8978e2409b06b0d16e525", func := "landfall/landfalllaw28.VtgTakes", spec := "vtgTakes", inPlace := ["internal/bytealg.IndexByteString", "internal/bytealg.IndexString"], unfollowed := true, recurses := true, named := ["unicode/utf8.first", "unicode/utf8.acceptRanges", "internal/bytealg.MaxLen"], apart := false, laid := [("unicode/utf8.acceptRanges", laid_unicode_utf8_acceptRanges), ("unicode/utf8.first", laid_unicode_utf8_first)] }
def VtgTakesSaid : Prop := vtgTakesRow.holds Tryd.pinned (OpenSpec.ofChange vtgTakesSpec)

/-- ITS FALSE NEIGHBOUR: 'it returns false'. Refute it at one input. -/
def vtgTakesWrong : ChangeSpec := { name := "vtgTakes", fn := fun _ => fun
  | [d] => { results := [.lit (.bool false)], args := [d] }
  | _ => none }
def VtgTakesWrongFalsely : Prop := vtgTakesRow.holds Tryd.pinned (OpenSpec.ofChange vtgTakesWrong)

/-- 'landfalllaw28.VtgBack': WHATEVER THE INPUT: true; the input reads as it did. -/
def vtgBackSpec : ChangeSpec := { name := "vtgBack", fn := fun _ => fun
  | [d1, d2] => { results := [.lit (.bool true)], args := [d1, d2] }
  | _ => none }
def vtgBackRow : OpenClaim := { program := "ytcoohlopafjnmaadoor", sum := "acd523ae436ebcd7c2d4416421c7046c9b49844cd5f8978e2409b06b0d16e525", func := "landfall/landfalllaw28.VtgBack", spec := "vtgBack", inPlace := ["internal/bytealg.IndexByteString", "internal/bytealg.IndexString"], unfollowed := true, recurses := true, named := ["unicode/utf8.first", "unicode/utf8.acceptRanges", "internal/bytealg.MaxLen"], apart := false, laid := [("unicode/utf8.acceptRanges", laid_unicode_utf8_acceptRanges), ("unicode/utf8.first", laid_unicode_utf8_first)] }
def VtgBackSaid : Prop := vtgBackRow.holds Tryd.pinned (OpenSpec.ofChange vtgBackSpec)

/-- ITS FALSE NEIGHBOUR: 'it returns false'. Refute it at one input. -/
def vtgBackWrong : ChangeSpec := { name := "vtgBack", fn := fun _ => fun
  | [d1, d2] => { results := [.lit (.bool false)], args := [d1, d2] }
  | _ => none }
def VtgBackWrongFalsely : Prop := vtgBackRow.holds Tryd.pinned (OpenSpec.ofChange vtgBackWrong)

/-- 'landfalllaw29.GsvTakes': WHATEVER THE INPUT: true; the input reads as it did. -/
def gsvTakesSpec : ChangeSpec := { name := "gsvTakes", fn := fun _ => fun
  | [d] => { results := [.lit (.bool true)], args := [d] }
  | _ => none }
def gsvTakesRow : OpenClaim := { program := "ytcoohlopafjnmaadoor", sum := "acd523ae436ebcd7c2d4416421c7046c9b49844cd5f8978e2409b06b0d16e525", func := "landfall/landfalllaw29.GsvTakes", spec := "gsvTakes", inPlace := ["internal/bytealg.IndexByteString", "internal/bytealg.IndexString"], unfollowed := true, recurses := true, named := ["unicode/utf8.first", "unicode/utf8.acceptRanges", "internal/bytealg.MaxLen"], apart := false, laid := [("unicode/utf8.acceptRanges", laid_unicode_utf8_acceptRanges), ("unicode/utf8.first", laid_unicode_utf8_first)] }
def GsvTakesSaid : Prop := gsvTakesRow.holds Tryd.pinned (OpenSpec.ofChange gsvTakesSpec)

/-- ITS FALSE NEIGHBOUR: 'it returns false'. Refute it at one input. -/
def gsvTakesWrong : ChangeSpec := { name := "gsvTakes", fn := fun _ => fun
  | [d] => { results := [.lit (.bool false)], args := [d] }
  | _ => none }
def GsvTakesWrongFalsely : Prop := gsvTakesRow.holds Tryd.pinned (OpenSpec.ofChange gsvTakesWrong)

/-- 'landfalllaw29.GsvBack': WHATEVER THE INPUT: true; the input reads as it did. -/
def gsvBackSpec : ChangeSpec := { name := "gsvBack", fn := fun _ => fun
  | [d1, d2] => { results := [.lit (.bool true)], args := [d1, d2] }
  | _ => none }
def gsvBackRow : OpenClaim := { program := "ytcoohlopafjnmaadoor", sum := "acd523ae436ebcd7c2d4416421c7046c9b49844cd5f8978e2409b06b0d16e525", func := "landfall/landfalllaw29.GsvBack", spec := "gsvBack", inPlace := ["internal/bytealg.IndexByteString", "internal/bytealg.IndexString"], unfollowed := true, recurses := true, named := ["unicode/utf8.first", "unicode/utf8.acceptRanges", "internal/bytealg.MaxLen"], apart := false, laid := [("unicode/utf8.acceptRanges", laid_unicode_utf8_acceptRanges), ("unicode/utf8.first", laid_unicode_utf8_first)] }
def GsvBackSaid : Prop := gsvBackRow.holds Tryd.pinned (OpenSpec.ofChange gsvBackSpec)

/-- ITS FALSE NEIGHBOUR: 'it returns false'. Refute it at one input. -/
def gsvBackWrong : ChangeSpec := { name := "gsvBack", fn := fun _ => fun
  | [d1, d2] => { results := [.lit (.bool false)], args := [d1, d2] }
  | _ => none }
def GsvBackWrongFalsely : Prop := gsvBackRow.holds Tryd.pinned (OpenSpec.ofChange gsvBackWrong)

/- THE SECOND FORM. 'bulk': how many values and letters a reading holds, each counted each time it is reached (what is shared counts as often as it is met; a slice's spare places count too). A statement '..UptoSaid' is the law's where the arguments, and the package variables that the reading takes, are together of bulk at most 1048576: NARROWER than '..Said'. Prove '..Said' where nothing that the law and all that it calls make is longer than what came in: it says more and counts as full. Else prove '..UptoSaid'. A law counts once. -/
mutual
def uptoBulk {H : Type} : DataW H → Nat
  | .lit (.string bytes) => bytes.length + 1
  | .lit _ => 1
  | .nil => 1
  | .ptr d => uptoBulk d + 1
  | .slice elems spare => uptoBulkAll elems + uptoBulkAll spare + 1
  | .agg parts => uptoBulkAll parts + 1
  | .iface _ d => uptoBulk d + 1
  | .map entries => uptoBulkEntries entries + 1
  | .held _ => 1
def uptoBulkAll {H : Type} : List (DataW H) → Nat
  | [] => 0
  | d :: r => uptoBulk d + uptoBulkAll r
def uptoBulkEntries {H : Type} : List (Lit × DataW H) → Nat
  | [] => 0
  | x :: r => uptoBulkEntry x + uptoBulkEntries r
def uptoBulkEntry {H : Type} : Lit × DataW H → Nat
  | (.string bytes, d) => bytes.length + uptoBulk d + 1
  | (_, d) => uptoBulk d + 1
 end
def uptoSmall : (H : Type) → List (DataW H) → Bool := fun _ ds => decide (uptoBulkAll ds ≤ 1048576)
def OpenSpec.upto (s : _root_.Go.ChangeSpec) : _root_.Go.OpenSpec := { _root_.Go.OpenSpec.ofChange s with cond := some uptoSmall }

/-- 'landfalllaw28.VtgPuts', WHERE WHAT IT READS IS OF BULK AT MOST 1048576: true; the input reads as it did. -/
def vtgPutsUptoRow : OpenClaim := { program := "ytcoohlopafjnmaadoor", sum := "acd523ae436ebcd7c2d4416421c7046c9b49844cd5f8978e2409b06b0d16e525", func := "landfall/landfalllaw28.VtgPuts", spec := "vtgPuts", inPlace := ["internal/bytealg.IndexByteString", "internal/bytealg.IndexString"], unfollowed := true, recurses := true, named := ["unicode/utf8.first", "unicode/utf8.acceptRanges", "internal/bytealg.MaxLen"], apart := false, laid := [("unicode/utf8.acceptRanges", laid_unicode_utf8_acceptRanges), ("unicode/utf8.first", laid_unicode_utf8_first)], narrowed := true }
def VtgPutsUptoSaid : Prop := vtgPutsUptoRow.holds Tryd.pinned (OpenSpec.upto vtgPutsSpec)

/-- 'landfalllaw29.GsvPuts', WHERE WHAT IT READS IS OF BULK AT MOST 1048576: true; the input reads as it did. -/
def gsvPutsUptoRow : OpenClaim := { program := "ytcoohlopafjnmaadoor", sum := "acd523ae436ebcd7c2d4416421c7046c9b49844cd5f8978e2409b06b0d16e525", func := "landfall/landfalllaw29.GsvPuts", spec := "gsvPuts", inPlace := ["internal/bytealg.IndexByteString", "internal/bytealg.IndexString"], named := ["unicode/utf8.first", "unicode/utf8.acceptRanges", "internal/bytealg.MaxLen"], apart := false, laid := [("unicode/utf8.acceptRanges", laid_unicode_utf8_acceptRanges), ("unicode/utf8.first", laid_unicode_utf8_first)], narrowed := true }
def GsvPutsUptoSaid : Prop := gsvPutsUptoRow.holds Tryd.pinned (OpenSpec.upto gsvPutsSpec)

/-- 'landfalllaw29.GsvBooks', WHERE WHAT IT READS IS OF BULK AT MOST 1048576: true; the input reads as it did. -/
def gsvBooksUptoRow : OpenClaim := { program := "ytcoohlopafjnmaadoor", sum := "acd523ae436ebcd7c2d4416421c7046c9b49844cd5f8978e2409b06b0d16e525", func := "landfall/landfalllaw29.GsvBooks", spec := "gsvBooks", inPlace := ["internal/bytealg.IndexByteString", "internal/bytealg.IndexString"], named := ["unicode/utf8.first", "unicode/utf8.acceptRanges", "internal/bytealg.MaxLen"], apart := false, laid := [("unicode/utf8.acceptRanges", laid_unicode_utf8_acceptRanges), ("unicode/utf8.first", laid_unicode_utf8_first)], narrowed := true }
def GsvBooksUptoSaid : Prop := gsvBooksUptoRow.holds Tryd.pinned (OpenSpec.upto gsvBooksSpec)

/-- 'landfalllaw29.GsvTogether', WHERE WHAT IT READS IS OF BULK AT MOST 1048576: true; the input reads as it did. -/
def gsvTogetherUptoRow : OpenClaim := { program := "ytcoohlopafjnmaadoor", sum := "acd523ae436ebcd7c2d4416421c7046c9b49844cd5f8978e2409b06b0d16e525", func := "landfall/landfalllaw29.GsvTogether", spec := "gsvTogether", inPlace := ["internal/bytealg.IndexByteString", "internal/bytealg.IndexString"], named := ["unicode/utf8.first", "unicode/utf8.acceptRanges", "internal/bytealg.MaxLen"], apart := false, laid := [("unicode/utf8.acceptRanges", laid_unicode_utf8_acceptRanges), ("unicode/utf8.first", laid_unicode_utf8_first)], narrowed := true }
def GsvTogetherUptoSaid : Prop := gsvTogetherUptoRow.holds Tryd.pinned (OpenSpec.upto gsvTogetherSpec)

/-- 'landfalllaw29.GsvNil', WHERE WHAT IT READS IS OF BULK AT MOST 1048576: true; the input reads as it did. -/
def gsvNilUptoRow : OpenClaim := { program := "ytcoohlopafjnmaadoor", sum := "acd523ae436ebcd7c2d4416421c7046c9b49844cd5f8978e2409b06b0d16e525", func := "landfall/landfalllaw29.GsvNil", spec := "gsvNil", inPlace := ["internal/bytealg.IndexByteString", "internal/bytealg.IndexString"], named := ["unicode/utf8.first", "unicode/utf8.acceptRanges", "internal/bytealg.MaxLen"], apart := false, laid := [("unicode/utf8.acceptRanges", laid_unicode_utf8_acceptRanges), ("unicode/utf8.first", laid_unicode_utf8_first)], narrowed := true }
def GsvNilUptoSaid : Prop := gsvNilUptoRow.holds Tryd.pinned (OpenSpec.upto gsvNilSpec)

/-- 'landfalllaw27.GsaPuts', WHERE WHAT IT READS IS OF BULK AT MOST 1048576: true; the input reads as it did. -/
def gsaPutsUptoRow : OpenClaim := { program := "ytcoohlopafjnmaadoor", sum := "acd523ae436ebcd7c2d4416421c7046c9b49844cd5f8978e2409b06b0d16e525", func := "landfall/landfalllaw27.GsaPuts", spec := "gsaPuts", inPlace := ["internal/bytealg.IndexByteString", "internal/bytealg.IndexString"], unfollowed := true, recurses := true, named := ["unicode/utf8.first", "unicode/utf8.acceptRanges", "internal/bytealg.MaxLen"], apart := false, laid := [("unicode/utf8.acceptRanges", laid_unicode_utf8_acceptRanges), ("unicode/utf8.first", laid_unicode_utf8_first)], narrowed := true }
def GsaPutsUptoSaid : Prop := gsaPutsUptoRow.holds Tryd.pinned (OpenSpec.upto gsaPutsSpec)

/-- 'landfalllaw27.GsaBack', WHERE WHAT IT READS IS OF BULK AT MOST 1048576: true; the input reads as it did. -/
def gsaBackUptoRow : OpenClaim := { program := "ytcoohlopafjnmaadoor", sum := "acd523ae436ebcd7c2d4416421c7046c9b49844cd5f8978e2409b06b0d16e525", func := "landfall/landfalllaw27.GsaBack", spec := "gsaBack", inPlace := ["internal/bytealg.IndexByteString", "internal/bytealg.IndexString"], unfollowed := true, recurses := true, named := ["unicode/utf8.first", "unicode/utf8.acceptRanges", "internal/bytealg.MaxLen"], apart := false, laid := [("unicode/utf8.acceptRanges", laid_unicode_utf8_acceptRanges), ("unicode/utf8.first", laid_unicode_utf8_first)], narrowed := true }
def GsaBackUptoSaid : Prop := gsaBackUptoRow.holds Tryd.pinned (OpenSpec.upto gsaBackSpec)

/-- 'landfalllaw28.VtgTakes', WHERE WHAT IT READS IS OF BULK AT MOST 1048576: true; the input reads as it did. -/
def vtgTakesUptoRow : OpenClaim := { program := "ytcoohlopafjnmaadoor", sum := "acd523ae436ebcd7c2d4416421c7046c9b49844cd5f8978e2409b06b0d16e525", func := "landfall/landfalllaw28.VtgTakes", spec := "vtgTakes", inPlace := ["internal/bytealg.IndexByteString", "internal/bytealg.IndexString"], unfollowed := true, recurses := true, named := ["unicode/utf8.first", "unicode/utf8.acceptRanges", "internal/bytealg.MaxLen"], apart := false, laid := [("unicode/utf8.acceptRanges", laid_unicode_utf8_acceptRanges), ("unicode/utf8.first", laid_unicode_utf8_first)], narrowed := true }
def VtgTakesUptoSaid : Prop := vtgTakesUptoRow.holds Tryd.pinned (OpenSpec.upto vtgTakesSpec)

/-- 'landfalllaw28.VtgBack', WHERE WHAT IT READS IS OF BULK AT MOST 1048576: true; the input reads as it did. -/
def vtgBackUptoRow : OpenClaim := { program := "ytcoohlopafjnmaadoor", sum := "acd523ae436ebcd7c2d4416421c7046c9b49844cd5f8978e2409b06b0d16e525", func := "landfall/landfalllaw28.VtgBack", spec := "vtgBack", inPlace := ["internal/bytealg.IndexByteString", "internal/bytealg.IndexString"], unfollowed := true, recurses := true, named := ["unicode/utf8.first", "unicode/utf8.acceptRanges", "internal/bytealg.MaxLen"], apart := false, laid := [("unicode/utf8.acceptRanges", laid_unicode_utf8_acceptRanges), ("unicode/utf8.first", laid_unicode_utf8_first)], narrowed := true }
def VtgBackUptoSaid : Prop := vtgBackUptoRow.holds Tryd.pinned (OpenSpec.upto vtgBackSpec)

/-- 'landfalllaw29.GsvTakes', WHERE WHAT IT READS IS OF BULK AT MOST 1048576: true; the input reads as it did. -/
def gsvTakesUptoRow : OpenClaim := { program := "ytcoohlopafjnmaadoor", sum := "acd523ae436ebcd7c2d4416421c7046c9b49844cd5f8978e2409b06b0d16e525", func := "landfall/landfalllaw29.GsvTakes", spec := "gsvTakes", inPlace := ["internal/bytealg.IndexByteString", "internal/bytealg.IndexString"], unfollowed := true, recurses := true, named := ["unicode/utf8.first", "unicode/utf8.acceptRanges", "internal/bytealg.MaxLen"], apart := false, laid := [("unicode/utf8.acceptRanges", laid_unicode_utf8_acceptRanges), ("unicode/utf8.first", laid_unicode_utf8_first)], narrowed := true }
def GsvTakesUptoSaid : Prop := gsvTakesUptoRow.holds Tryd.pinned (OpenSpec.upto gsvTakesSpec)

/-- 'landfalllaw29.GsvBack', WHERE WHAT IT READS IS OF BULK AT MOST 1048576: true; the input reads as it did. -/
def gsvBackUptoRow : OpenClaim := { program := "ytcoohlopafjnmaadoor", sum := "acd523ae436ebcd7c2d4416421c7046c9b49844cd5f8978e2409b06b0d16e525", func := "landfall/landfalllaw29.GsvBack", spec := "gsvBack", inPlace := ["internal/bytealg.IndexByteString", "internal/bytealg.IndexString"], unfollowed := true, recurses := true, named := ["unicode/utf8.first", "unicode/utf8.acceptRanges", "internal/bytealg.MaxLen"], apart := false, laid := [("unicode/utf8.acceptRanges", laid_unicode_utf8_acceptRanges), ("unicode/utf8.first", laid_unicode_utf8_first)], narrowed := true }
def GsvBackUptoSaid : Prop := gsvBackUptoRow.holds Tryd.pinned (OpenSpec.upto gsvBackSpec)

end Rows
end Go.Proofs.YtcoohlopafjnmaaDoor
