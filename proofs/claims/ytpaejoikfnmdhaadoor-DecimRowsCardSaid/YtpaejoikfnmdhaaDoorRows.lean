/-
  NARROWER THAN 'FOR EVERY INPUT', by the rows' own cells (each row's printed sentence says how): DecimTells: laid · DecimBack: laid · DecimAngles: laid · DecimNil: laid · DecimRows: laid.
  DERIVED. THE GIVEN ROWS OF THIS SEAT. 5 by the template 'for every input the law returns true; each argument reads behind the call as it read before'; 0 by the template 'total and deterministic' (their statements: YtpaejoikfnmdhaaDoorTotals.lean).
  GIVEN WITH THE SEED: the statements are not yours to turn. If you find one false, say at which input.
  Laid BY PROGRAM, IN A SANDBOX (cutbox-rows.mjs): the forced cells as the released guide's own fill.sh prints them over the translation 487cc2123ea1376f… (all of the seat's roots in one cut). By AI agents, Wed Nov 11 2026. No macro, syntax, notation, axiom, sorry.
-/
import Derived.Test.YtpaejoikfnmdhaaDoorChecked
import GoSem.PinnedTables
import GoSem.Claim
import GoSem.ClaimJoined
import GoSem.ClaimMapViews
import Derived.JoinedTies
import Derived.KernelRfl
namespace Go.Proofs.YtpaejoikfnmdhaaDoor
/- THE CELL 'sum', in the pinned program and in every row, IS THE sha256 OF THE DUMP (.gsa) THAT YtpaejoikfnmdhaaDoorProg.lean LOADS. Nothing in Lean hashes anything: it is a label: what it is worth is what the hold of that sum in a sandbox is worth. -/
noncomputable def Tryd.pinned : Pinned := { name := "ytpaejoikfnmdhaadoor", sum := "487cc2123ea1376fe68538d4ca3f157596e4be3a92387d150f0d576a44f14ad1", checked := Tryd.checked }
namespace Rows
def none {H : Type} : Left H := { results := [], args := [] }

/- WHAT THE LISTED PACKAGE-LEVEL VARIABLES READ AS WHEN THE CALL BEGINS. Each datum BY PROGRAM (the guide's laid-datum.mjs) off the statement by which the dump's own 'gosem.cut.vars' lays the variable. In a bare row this is a premise. The card (YtpaejoikfnmdhaaDoorCards.lean) ties it to the program's text. -/
def laid_unicode_utf8_acceptRanges {H : Type} : DataW H := .agg [.agg [.lit (.int .u8 128), .lit (.int .u8 191)], .agg [.lit (.int .u8 160), .lit (.int .u8 191)], .agg [.lit (.int .u8 128), .lit (.int .u8 159)], .agg [.lit (.int .u8 144), .lit (.int .u8 191)], .agg [.lit (.int .u8 128), .lit (.int .u8 143)], .agg [.lit (.int .u8 0), .lit (.int .u8 0)], .agg [.lit (.int .u8 0), .lit (.int .u8 0)], .agg [.lit (.int .u8 0), .lit (.int .u8 0)], .agg [.lit (.int .u8 0), .lit (.int .u8 0)], .agg [.lit (.int .u8 0), .lit (.int .u8 0)], .agg [.lit (.int .u8 0), .lit (.int .u8 0)], .agg [.lit (.int .u8 0), .lit (.int .u8 0)], .agg [.lit (.int .u8 0), .lit (.int .u8 0)], .agg [.lit (.int .u8 0), .lit (.int .u8 0)], .agg [.lit (.int .u8 0), .lit (.int .u8 0)], .agg [.lit (.int .u8 0), .lit (.int .u8 0)]]
/-- One of Go's own tables, pinned by name: the form's constant. -/
def laid_unicode_utf8_first : DataW Unit := Go.Pinned.utf8First

/-- 'landfalllaw23.DecimTells': WHATEVER THE INPUT: true; the input reads as it did. -/
def decimTellsSpec : ChangeSpec := { name := "decimTells", fn := fun _ => fun
  | [d1, d2, d3] => { results := [.lit (.bool true)], args := [d1, d2, d3] }
  | _ => none }
def decimTellsRow : OpenClaim := { program := "ytpaejoikfnmdhaadoor", sum := "487cc2123ea1376fe68538d4ca3f157596e4be3a92387d150f0d576a44f14ad1", func := "landfall/landfalllaw23.DecimTells", spec := "decimTells", inPlace := ["internal/bytealg.IndexByteString", "internal/bytealg.IndexString"], unfollowed := true, recurses := true, named := ["unicode/utf8.first", "unicode/utf8.acceptRanges", "internal/bytealg.MaxLen"], apart := false, laid := [("unicode/utf8.acceptRanges", laid_unicode_utf8_acceptRanges), ("unicode/utf8.first", laid_unicode_utf8_first)] }
def DecimTellsSaid : Prop := decimTellsRow.holds Tryd.pinned (OpenSpec.ofChange decimTellsSpec)

/-- ITS FALSE NEIGHBOUR: 'it returns false'. Refute it at one input. -/
def decimTellsWrong : ChangeSpec := { name := "decimTells", fn := fun _ => fun
  | [d1, d2, d3] => { results := [.lit (.bool false)], args := [d1, d2, d3] }
  | _ => none }
def DecimTellsWrongFalsely : Prop := decimTellsRow.holds Tryd.pinned (OpenSpec.ofChange decimTellsWrong)

/-- 'landfalllaw23.DecimBack': WHATEVER THE INPUT: true; the input reads as it did. -/
def decimBackSpec : ChangeSpec := { name := "decimBack", fn := fun _ => fun
  | [d1, d2, d3, d4, d5] => { results := [.lit (.bool true)], args := [d1, d2, d3, d4, d5] }
  | _ => none }
def decimBackRow : OpenClaim := { program := "ytpaejoikfnmdhaadoor", sum := "487cc2123ea1376fe68538d4ca3f157596e4be3a92387d150f0d576a44f14ad1", func := "landfall/landfalllaw23.DecimBack", spec := "decimBack", inPlace := ["internal/bytealg.IndexByteString", "internal/bytealg.IndexString"], unfollowed := true, recurses := true, named := ["unicode/utf8.first", "unicode/utf8.acceptRanges", "internal/bytealg.MaxLen"], apart := false, laid := [("unicode/utf8.acceptRanges", laid_unicode_utf8_acceptRanges), ("unicode/utf8.first", laid_unicode_utf8_first)] }
def DecimBackSaid : Prop := decimBackRow.holds Tryd.pinned (OpenSpec.ofChange decimBackSpec)

/-- ITS FALSE NEIGHBOUR: 'it returns false'. Refute it at one input. -/
def decimBackWrong : ChangeSpec := { name := "decimBack", fn := fun _ => fun
  | [d1, d2, d3, d4, d5] => { results := [.lit (.bool false)], args := [d1, d2, d3, d4, d5] }
  | _ => none }
def DecimBackWrongFalsely : Prop := decimBackRow.holds Tryd.pinned (OpenSpec.ofChange decimBackWrong)

/-- 'landfalllaw23.DecimAngles': WHATEVER THE INPUT: true; the input reads as it did. -/
def decimAnglesSpec : ChangeSpec := { name := "decimAngles", fn := fun _ => fun
  | [d1, d2, d3, d4] => { results := [.lit (.bool true)], args := [d1, d2, d3, d4] }
  | _ => none }
def decimAnglesRow : OpenClaim := { program := "ytpaejoikfnmdhaadoor", sum := "487cc2123ea1376fe68538d4ca3f157596e4be3a92387d150f0d576a44f14ad1", func := "landfall/landfalllaw23.DecimAngles", spec := "decimAngles", inPlace := ["internal/bytealg.IndexByteString", "internal/bytealg.IndexString"], unfollowed := true, recurses := true, named := ["unicode/utf8.first", "unicode/utf8.acceptRanges", "internal/bytealg.MaxLen"], apart := false, laid := [("unicode/utf8.acceptRanges", laid_unicode_utf8_acceptRanges), ("unicode/utf8.first", laid_unicode_utf8_first)] }
def DecimAnglesSaid : Prop := decimAnglesRow.holds Tryd.pinned (OpenSpec.ofChange decimAnglesSpec)

/-- ITS FALSE NEIGHBOUR: 'it returns false'. Refute it at one input. -/
def decimAnglesWrong : ChangeSpec := { name := "decimAngles", fn := fun _ => fun
  | [d1, d2, d3, d4] => { results := [.lit (.bool false)], args := [d1, d2, d3, d4] }
  | _ => none }
def DecimAnglesWrongFalsely : Prop := decimAnglesRow.holds Tryd.pinned (OpenSpec.ofChange decimAnglesWrong)

/-- 'landfalllaw23.DecimNil': WHATEVER THE INPUT: true; the input reads as it did. -/
def decimNilSpec : ChangeSpec := { name := "decimNil", fn := fun _ => fun
  | [d1, d2] => { results := [.lit (.bool true)], args := [d1, d2] }
  | _ => none }
def decimNilRow : OpenClaim := { program := "ytpaejoikfnmdhaadoor", sum := "487cc2123ea1376fe68538d4ca3f157596e4be3a92387d150f0d576a44f14ad1", func := "landfall/landfalllaw23.DecimNil", spec := "decimNil", inPlace := ["internal/bytealg.IndexByteString", "internal/bytealg.IndexString"], unfollowed := true, recurses := true, named := ["unicode/utf8.first", "unicode/utf8.acceptRanges", "internal/bytealg.MaxLen"], apart := false, laid := [("unicode/utf8.acceptRanges", laid_unicode_utf8_acceptRanges), ("unicode/utf8.first", laid_unicode_utf8_first)] }
def DecimNilSaid : Prop := decimNilRow.holds Tryd.pinned (OpenSpec.ofChange decimNilSpec)

/-- ITS FALSE NEIGHBOUR: 'it returns false'. Refute it at one input. -/
def decimNilWrong : ChangeSpec := { name := "decimNil", fn := fun _ => fun
  | [d1, d2] => { results := [.lit (.bool false)], args := [d1, d2] }
  | _ => none }
def DecimNilWrongFalsely : Prop := decimNilRow.holds Tryd.pinned (OpenSpec.ofChange decimNilWrong)

/-- 'landfalllaw23.DecimRows': WHATEVER THE INPUT: true; the input reads as it did. -/
def decimRowsSpec : ChangeSpec := { name := "decimRows", fn := fun _ => fun
  | [d1, d2] => { results := [.lit (.bool true)], args := [d1, d2] }
  | _ => none }
def decimRowsRow : OpenClaim := { program := "ytpaejoikfnmdhaadoor", sum := "487cc2123ea1376fe68538d4ca3f157596e4be3a92387d150f0d576a44f14ad1", func := "landfall/landfalllaw23.DecimRows", spec := "decimRows", inPlace := ["internal/bytealg.IndexByteString", "internal/bytealg.IndexString"], unfollowed := true, recurses := true, named := ["unicode/utf8.first", "unicode/utf8.acceptRanges", "internal/bytealg.MaxLen"], apart := false, laid := [("unicode/utf8.acceptRanges", laid_unicode_utf8_acceptRanges), ("unicode/utf8.first", laid_unicode_utf8_first)] }
def DecimRowsSaid : Prop := decimRowsRow.holds Tryd.pinned (OpenSpec.ofChange decimRowsSpec)

/-- ITS FALSE NEIGHBOUR: 'it returns false'. Refute it at one input. -/
def decimRowsWrong : ChangeSpec := { name := "decimRows", fn := fun _ => fun
  | [d1, d2] => { results := [.lit (.bool false)], args := [d1, d2] }
  | _ => none }
def DecimRowsWrongFalsely : Prop := decimRowsRow.holds Tryd.pinned (OpenSpec.ofChange decimRowsWrong)

/- THE SECOND FORM. 'bulk': how many values and letters a reading holds, each counted each time it is reached (what is shared counts as often as it is met; a slice's spare places count too). A statement '..UptoSaid' is the law's where the arguments, and the package variables that the reading takes, are together of bulk at most 1048576: NARROWER than '..Said'. Prove '..Said' where nothing that the law and all that it calls make is longer than what came in: it says more and counts as full. Else prove '..UptoSaid'. A law counts once. -/
mutual
def uptoBulk {H : Type} : DataW H → Nat
  | .lit (.string bytes) => bytes.length + 1
  | .lit _ => 1
  | .nil => 1
  | .ptr d => uptoBulk d + 1
  | .slice elems spare => uptoBulkAll elems + uptoBulkAll spare + 1
  | .agg parts => uptoBulkAll parts + 1
  | .iface _ d => uptoBulk d + 1
  | .map entries => uptoBulkEntries entries + 1
  | .held _ => 1
def uptoBulkAll {H : Type} : List (DataW H) → Nat
  | [] => 0
  | d :: r => uptoBulk d + uptoBulkAll r
def uptoBulkEntries {H : Type} : List (Lit × DataW H) → Nat
  | [] => 0
  | x :: r => uptoBulkEntry x + uptoBulkEntries r
def uptoBulkEntry {H : Type} : Lit × DataW H → Nat
  | (.string bytes, d) => bytes.length + uptoBulk d + 1
  | (_, d) => uptoBulk d + 1
 end
def uptoSmall : (H : Type) → List (DataW H) → Bool := fun _ ds => decide (uptoBulkAll ds ≤ 1048576)
def OpenSpec.upto (s : _root_.Go.ChangeSpec) : _root_.Go.OpenSpec := { _root_.Go.OpenSpec.ofChange s with cond := some uptoSmall }

/-- 'landfalllaw23.DecimTells', WHERE WHAT IT READS IS OF BULK AT MOST 1048576: true; the input reads as it did. -/
def decimTellsUptoRow : OpenClaim := { program := "ytpaejoikfnmdhaadoor", sum := "487cc2123ea1376fe68538d4ca3f157596e4be3a92387d150f0d576a44f14ad1", func := "landfall/landfalllaw23.DecimTells", spec := "decimTells", inPlace := ["internal/bytealg.IndexByteString", "internal/bytealg.IndexString"], unfollowed := true, recurses := true, named := ["unicode/utf8.first", "unicode/utf8.acceptRanges", "internal/bytealg.MaxLen"], apart := false, laid := [("unicode/utf8.acceptRanges", laid_unicode_utf8_acceptRanges), ("unicode/utf8.first", laid_unicode_utf8_first)], narrowed := true }
def DecimTellsUptoSaid : Prop := decimTellsUptoRow.holds Tryd.pinned (OpenSpec.upto decimTellsSpec)

/-- 'landfalllaw23.DecimBack', WHERE WHAT IT READS IS OF BULK AT MOST 1048576: true; the input reads as it did. -/
def decimBackUptoRow : OpenClaim := { program := "ytpaejoikfnmdhaadoor", sum := "487cc2123ea1376fe68538d4ca3f157596e4be3a92387d150f0d576a44f14ad1", func := "landfall/landfalllaw23.DecimBack", spec := "decimBack", inPlace := ["internal/bytealg.IndexByteString", "internal/bytealg.IndexString"], unfollowed := true, recurses := true, named := ["unicode/utf8.first", "unicode/utf8.acceptRanges", "internal/bytealg.MaxLen"], apart := false, laid := [("unicode/utf8.acceptRanges", laid_unicode_utf8_acceptRanges), ("unicode/utf8.first", laid_unicode_utf8_first)], narrowed := true }
def DecimBackUptoSaid : Prop := decimBackUptoRow.holds Tryd.pinned (OpenSpec.upto decimBackSpec)

/-- 'landfalllaw23.DecimAngles', WHERE WHAT IT READS IS OF BULK AT MOST 1048576: true; the input reads as it did. -/
def decimAnglesUptoRow : OpenClaim := { program := "ytpaejoikfnmdhaadoor", sum := "487cc2123ea1376fe68538d4ca3f157596e4be3a92387d150f0d576a44f14ad1", func := "landfall/landfalllaw23.DecimAngles", spec := "decimAngles", inPlace := ["internal/bytealg.IndexByteString", "internal/bytealg.IndexString"], unfollowed := true, recurses := true, named := ["unicode/utf8.first", "unicode/utf8.acceptRanges", "internal/bytealg.MaxLen"], apart := false, laid := [("unicode/utf8.acceptRanges", laid_unicode_utf8_acceptRanges), ("unicode/utf8.first", laid_unicode_utf8_first)], narrowed := true }
def DecimAnglesUptoSaid : Prop := decimAnglesUptoRow.holds Tryd.pinned (OpenSpec.upto decimAnglesSpec)

/-- 'landfalllaw23.DecimNil', WHERE WHAT IT READS IS OF BULK AT MOST 1048576: true; the input reads as it did. -/
def decimNilUptoRow : OpenClaim := { program := "ytpaejoikfnmdhaadoor", sum := "487cc2123ea1376fe68538d4ca3f157596e4be3a92387d150f0d576a44f14ad1", func := "landfall/landfalllaw23.DecimNil", spec := "decimNil", inPlace := ["internal/bytealg.IndexByteString", "internal/bytealg.IndexString"], unfollowed := true, recurses := true, named := ["unicode/utf8.first", "unicode/utf8.acceptRanges", "internal/bytealg.MaxLen"], apart := false, laid := [("unicode/utf8.acceptRanges", laid_unicode_utf8_acceptRanges), ("unicode/utf8.first", laid_unicode_utf8_first)], narrowed := true }
def DecimNilUptoSaid : Prop := decimNilUptoRow.holds Tryd.pinned (OpenSpec.upto decimNilSpec)

/-- 'landfalllaw23.DecimRows', WHERE WHAT IT READS IS OF BULK AT MOST 1048576: true; the input reads as it did. -/
def decimRowsUptoRow : OpenClaim := { program := "ytpaejoikfnmdhaadoor", sum := "487cc2123ea1376fe68538d4ca3f157596e4be3a92387d150f0d576a44f14ad1", func := "landfall/landfalllaw23.DecimRows", spec := "decimRows", inPlace := ["internal/bytealg.IndexByteString", "internal/bytealg.IndexString"], unfollowed := true, recurses := true, named := ["unicode/utf8.first", "unicode/utf8.acceptRanges", "internal/bytealg.MaxLen"], apart := false, laid := [("unicode/utf8.acceptRanges", laid_unicode_utf8_acceptRanges), ("unicode/utf8.first", laid_unicode_utf8_first)], narrowed := true }
def DecimRowsUptoSaid : Prop := decimRowsUptoRow.holds Tryd.pinned (OpenSpec.upto decimRowsSpec)

end Rows
end Go.Proofs.YtpaejoikfnmdhaaDoor
