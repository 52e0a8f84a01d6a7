/-
  NARROWER THAN 'FOR EVERY INPUT', by the rows' own cells (each row's printed sentence says how): GgaPuts: laid · GgaTakes: laid · GgaBack: laid · RmcBack: laid · GsaPuts: laid · GsaBack: laid.
  DERIVED. THE GIVEN ROWS OF THIS SEAT. 6 by the template 'for every input the law returns true; each argument reads behind the call as it read before'; 0 by the template 'total and deterministic' (their statements: YtkjmcgjlkheamaaDoorTotals.lean).
  GIVEN WITH THE SEED: the statements are not yours to turn. If you find one false, say at which input.
  Laid BY PROGRAM, IN A SANDBOX (cutbox-rows.mjs): the forced cells as the released guide's own fill.sh prints them over the translation e203d103124b3d15… (all of the seat's roots in one cut). By AI agents, Wed Nov 11 2026. No macro, syntax, notation, axiom, sorry.
-/
import Derived.Test.YtkjmcgjlkheamaaDoorChecked
import GoSem.PinnedTables
import GoSem.Claim
import GoSem.ClaimJoined
import GoSem.ClaimMapViews
import Derived.JoinedTies
import Derived.KernelRfl
namespace Go.Proofs.YtkjmcgjlkheamaaDoor
/- THE CELL 'sum', in the pinned program and in every row, IS THE sha256 OF THE DUMP (.gsa) THAT YtkjmcgjlkheamaaDoorProg.lean LOADS. Nothing in Lean hashes anything: it is a label: what it is worth is what the hold of that sum in a sandbox is worth. -/
noncomputable def Tryd.pinned : Pinned := { name := "ytkjmcgjlkheamaadoor", sum := "e203d103124b3d15e9834dd2e9b1a74dff0220216826c14ffbc7d796d44ec15b", checked := Tryd.checked }
namespace Rows
def none {H : Type} : Left H := { results := [], args := [] }

/- WHAT THE LISTED PACKAGE-LEVEL VARIABLES READ AS WHEN THE CALL BEGINS. Each datum BY PROGRAM (the guide's laid-datum.mjs) off the statement by which the dump's own 'gosem.cut.vars' lays the variable. In a bare row this is a premise. The card (YtkjmcgjlkheamaaDoorCards.lean) ties it to the program's text. -/
def laid_unicode_utf8_acceptRanges {H : Type} : DataW H := .agg [.agg [.lit (.int .u8 128), .lit (.int .u8 191)], .agg [.lit (.int .u8 160), .lit (.int .u8 191)], .agg [.lit (.int .u8 128), .lit (.int .u8 159)], .agg [.lit (.int .u8 144), .lit (.int .u8 191)], .agg [.lit (.int .u8 128), .lit (.int .u8 143)], .agg [.lit (.int .u8 0), .lit (.int .u8 0)], .agg [.lit (.int .u8 0), .lit (.int .u8 0)], .agg [.lit (.int .u8 0), .lit (.int .u8 0)], .agg [.lit (.int .u8 0), .lit (.int .u8 0)], .agg [.lit (.int .u8 0), .lit (.int .u8 0)], .agg [.lit (.int .u8 0), .lit (.int .u8 0)], .agg [.lit (.int .u8 0), .lit (.int .u8 0)], .agg [.lit (.int .u8 0), .lit (.int .u8 0)], .agg [.lit (.int .u8 0), .lit (.int .u8 0)], .agg [.lit (.int .u8 0), .lit (.int .u8 0)], .agg [.lit (.int .u8 0), .lit (.int .u8 0)]]
/-- One of Go's own tables, pinned by name: the form's constant. -/
def laid_unicode_utf8_first : DataW Unit := Go.Pinned.utf8First

/-- 'landfalllaw25.GgaPuts': WHATEVER THE INPUT: true; the input reads as it did. -/
def ggaPutsSpec : ChangeSpec := { name := "ggaPuts", fn := fun _ => fun
  | [d] => { results := [.lit (.bool true)], args := [d] }
  | _ => none }
def ggaPutsRow : OpenClaim := { program := "ytkjmcgjlkheamaadoor", sum := "e203d103124b3d15e9834dd2e9b1a74dff0220216826c14ffbc7d796d44ec15b", func := "landfall/landfalllaw25.GgaPuts", spec := "ggaPuts", inPlace := ["internal/bytealg.IndexByteString", "internal/bytealg.IndexString"], unfollowed := true, recurses := true, named := ["unicode/utf8.first", "unicode/utf8.acceptRanges", "internal/bytealg.MaxLen"], apart := false, laid := [("unicode/utf8.acceptRanges", laid_unicode_utf8_acceptRanges), ("unicode/utf8.first", laid_unicode_utf8_first)] }
def GgaPutsSaid : Prop := ggaPutsRow.holds Tryd.pinned (OpenSpec.ofChange ggaPutsSpec)

/-- ITS FALSE NEIGHBOUR: 'it returns false'. Refute it at one input. -/
def ggaPutsWrong : ChangeSpec := { name := "ggaPuts", fn := fun _ => fun
  | [d] => { results := [.lit (.bool false)], args := [d] }
  | _ => none }
def GgaPutsWrongFalsely : Prop := ggaPutsRow.holds Tryd.pinned (OpenSpec.ofChange ggaPutsWrong)

/-- 'landfalllaw25.GgaTakes': WHATEVER THE INPUT: true; the input reads as it did. -/
def ggaTakesSpec : ChangeSpec := { name := "ggaTakes", fn := fun _ => fun
  | [d] => { results := [.lit (.bool true)], args := [d] }
  | _ => none }
def ggaTakesRow : OpenClaim := { program := "ytkjmcgjlkheamaadoor", sum := "e203d103124b3d15e9834dd2e9b1a74dff0220216826c14ffbc7d796d44ec15b", func := "landfall/landfalllaw25.GgaTakes", spec := "ggaTakes", inPlace := ["internal/bytealg.IndexByteString", "internal/bytealg.IndexString"], unfollowed := true, recurses := true, named := ["unicode/utf8.first", "unicode/utf8.acceptRanges", "internal/bytealg.MaxLen"], apart := false, laid := [("unicode/utf8.acceptRanges", laid_unicode_utf8_acceptRanges), ("unicode/utf8.first", laid_unicode_utf8_first)] }
def GgaTakesSaid : Prop := ggaTakesRow.holds Tryd.pinned (OpenSpec.ofChange ggaTakesSpec)

/-- ITS FALSE NEIGHBOUR: 'it returns false'. Refute it at one input. -/
def ggaTakesWrong : ChangeSpec := { name := "ggaTakes", fn := fun _ => fun
  | [d] => { results := [.lit (.bool false)], args := [d] }
  | _ => none }
def GgaTakesWrongFalsely : Prop := ggaTakesRow.holds Tryd.pinned (OpenSpec.ofChange ggaTakesWrong)

/-- 'landfalllaw25.GgaBack': WHATEVER THE INPUT: true; the input reads as it did. -/
def ggaBackSpec : ChangeSpec := { name := "ggaBack", fn := fun _ => fun
  | [d1, d2] => { results := [.lit (.bool true)], args := [d1, d2] }
  | _ => none }
def ggaBackRow : OpenClaim := { program := "ytkjmcgjlkheamaadoor", sum := "e203d103124b3d15e9834dd2e9b1a74dff0220216826c14ffbc7d796d44ec15b", func := "landfall/landfalllaw25.GgaBack", spec := "ggaBack", inPlace := ["internal/bytealg.IndexByteString", "internal/bytealg.IndexString"], unfollowed := true, recurses := true, named := ["unicode/utf8.first", "unicode/utf8.acceptRanges", "internal/bytealg.MaxLen"], apart := false, laid := [("unicode/utf8.acceptRanges", laid_unicode_utf8_acceptRanges), ("unicode/utf8.first", laid_unicode_utf8_first)] }
def GgaBackSaid : Prop := ggaBackRow.holds Tryd.pinned (OpenSpec.ofChange ggaBackSpec)

/-- ITS FALSE NEIGHBOUR: 'it returns false'. Refute it at one input. -/
def ggaBackWrong : ChangeSpec := { name := "ggaBack", fn := fun _ => fun
  | [d1, d2] => { results := [.lit (.bool false)], args := [d1, d2] }
  | _ => none }
def GgaBackWrongFalsely : Prop := ggaBackRow.holds Tryd.pinned (OpenSpec.ofChange ggaBackWrong)

/-- 'landfalllaw26.RmcBack': WHATEVER THE INPUT: true; the input reads as it did. -/
def rmcBackSpec : ChangeSpec := { name := "rmcBack", fn := fun _ => fun
  | [d1, d2] => { results := [.lit (.bool true)], args := [d1, d2] }
  | _ => none }
def rmcBackRow : OpenClaim := { program := "ytkjmcgjlkheamaadoor", sum := "e203d103124b3d15e9834dd2e9b1a74dff0220216826c14ffbc7d796d44ec15b", func := "landfall/landfalllaw26.RmcBack", spec := "rmcBack", inPlace := ["internal/bytealg.IndexByteString", "internal/bytealg.IndexString"], unfollowed := true, recurses := true, named := ["unicode/utf8.first", "unicode/utf8.acceptRanges", "internal/bytealg.MaxLen"], apart := false, laid := [("unicode/utf8.acceptRanges", laid_unicode_utf8_acceptRanges), ("unicode/utf8.first", laid_unicode_utf8_first)] }
def RmcBackSaid : Prop := rmcBackRow.holds Tryd.pinned (OpenSpec.ofChange rmcBackSpec)

/-- ITS FALSE NEIGHBOUR: 'it returns false'. Refute it at one input. -/
def rmcBackWrong : ChangeSpec := { name := "rmcBack", fn := fun _ => fun
  | [d1, d2] => { results := [.lit (.bool false)], args := [d1, d2] }
  | _ => none }
def RmcBackWrongFalsely : Prop := rmcBackRow.holds Tryd.pinned (OpenSpec.ofChange rmcBackWrong)

/-- 'landfalllaw27.GsaPuts': WHATEVER THE INPUT: true; the input reads as it did. -/
def gsaPutsSpec : ChangeSpec := { name := "gsaPuts", fn := fun _ => fun
  | [d] => { results := [.lit (.bool true)], args := [d] }
  | _ => none }
def gsaPutsRow : OpenClaim := { program := "ytkjmcgjlkheamaadoor", sum := "e203d103124b3d15e9834dd2e9b1a74dff0220216826c14ffbc7d796d44ec15b", func := "landfall/landfalllaw27.GsaPuts", spec := "gsaPuts", inPlace := ["internal/bytealg.IndexByteString", "internal/bytealg.IndexString"], unfollowed := true, recurses := true, named := ["unicode/utf8.first", "unicode/utf8.acceptRanges", "internal/bytealg.MaxLen"], apart := false, laid := [("unicode/utf8.acceptRanges", laid_unicode_utf8_acceptRanges), ("unicode/utf8.first", laid_unicode_utf8_first)] }
def GsaPutsSaid : Prop := gsaPutsRow.holds Tryd.pinned (OpenSpec.ofChange gsaPutsSpec)

/-- ITS FALSE NEIGHBOUR: 'it returns false'. Refute it at one input. -/
def gsaPutsWrong : ChangeSpec := { name := "gsaPuts", fn := fun _ => fun
  | [d] => { results := [.lit (.bool false)], args := [d] }
  | _ => none }
def GsaPutsWrongFalsely : Prop := gsaPutsRow.holds Tryd.pinned (OpenSpec.ofChange gsaPutsWrong)

/-- 'landfalllaw27.GsaBack': WHATEVER THE INPUT: true; the input reads as it did. -/
def gsaBackSpec : ChangeSpec := { name := "gsaBack", fn := fun _ => fun
  | [d1, d2] => { results := [.lit (.bool true)], args := [d1, d2] }
  | _ => none }
def gsaBackRow : OpenClaim := { program := "ytkjmcgjlkheamaadoor", sum := "e203d103124b3d15e9834dd2e9b1a74dff0220216826c14ffbc7d796d44ec15b", func := "landfall/landfalllaw27.GsaBack", spec := "gsaBack", inPlace := ["internal/bytealg.IndexByteString", "internal/bytealg.IndexString"], unfollowed := true, recurses := true, named := ["unicode/utf8.first", "unicode/utf8.acceptRanges", "internal/bytealg.MaxLen"], apart := false, laid := [("unicode/utf8.acceptRanges", laid_unicode_utf8_acceptRanges), ("unicode/utf8.first", laid_unicode_utf8_first)] }
def GsaBackSaid : Prop := gsaBackRow.holds Tryd.pinned (OpenSpec.ofChange gsaBackSpec)

/-- ITS FALSE NEIGHBOUR: 'it returns false'. Refute it at one input. -/
def gsaBackWrong : ChangeSpec := { name := "gsaBack", fn := fun _ => fun
  | [d1, d2] => { results := [.lit (.bool false)], args := [d1, d2] }
  | _ => none }
def GsaBackWrongFalsely : Prop := gsaBackRow.holds Tryd.pinned (OpenSpec.ofChange gsaBackWrong)

/- THE SECOND FORM. 'bulk': how many values and letters a reading holds, each counted each time it is reached (what is shared counts as often as it is met; a slice's spare places count too). A statement '..UptoSaid' is the law's where the arguments, and the package variables that the reading takes, are together of bulk at most 1048576: NARROWER than '..Said'. Prove '..Said' where nothing that the law and all that it calls make is longer than what came in: it says more and counts as full. Else prove '..UptoSaid'. A law counts once. -/
mutual
def uptoBulk {H : Type} : DataW H → Nat
  | .lit (.string bytes) => bytes.length + 1
  | .lit _ => 1
  | .nil => 1
  | .ptr d => uptoBulk d + 1
  | .slice elems spare => uptoBulkAll elems + uptoBulkAll spare + 1
  | .agg parts => uptoBulkAll parts + 1
  | .iface _ d => uptoBulk d + 1
  | .map entries => uptoBulkEntries entries + 1
  | .held _ => 1
def uptoBulkAll {H : Type} : List (DataW H) → Nat
  | [] => 0
  | d :: r => uptoBulk d + uptoBulkAll r
def uptoBulkEntries {H : Type} : List (Lit × DataW H) → Nat
  | [] => 0
  | x :: r => uptoBulkEntry x + uptoBulkEntries r
def uptoBulkEntry {H : Type} : Lit × DataW H → Nat
  | (.string bytes, d) => bytes.length + uptoBulk d + 1
  | (_, d) => uptoBulk d + 1
 end
def uptoSmall : (H : Type) → List (DataW H) → Bool := fun _ ds => decide (uptoBulkAll ds ≤ 1048576)
def OpenSpec.upto (s : _root_.Go.ChangeSpec) : _root_.Go.OpenSpec := { _root_.Go.OpenSpec.ofChange s with cond := some uptoSmall }

/-- 'landfalllaw25.GgaPuts', WHERE WHAT IT READS IS OF BULK AT MOST 1048576: true; the input reads as it did. -/
def ggaPutsUptoRow : OpenClaim := { program := "ytkjmcgjlkheamaadoor", sum := "e203d103124b3d15e9834dd2e9b1a74dff0220216826c14ffbc7d796d44ec15b", func := "landfall/landfalllaw25.GgaPuts", spec := "ggaPuts", inPlace := ["internal/bytealg.IndexByteString", "internal/bytealg.IndexString"], unfollowed := true, recurses := true, named := ["unicode/utf8.first", "unicode/utf8.acceptRanges", "internal/bytealg.MaxLen"], apart := false, laid := [("unicode/utf8.acceptRanges", laid_unicode_utf8_acceptRanges), ("unicode/utf8.first", laid_unicode_utf8_first)], narrowed := true }
def GgaPutsUptoSaid : Prop := ggaPutsUptoRow.holds Tryd.pinned (OpenSpec.upto ggaPutsSpec)

/-- 'landfalllaw25.GgaTakes', WHERE WHAT IT READS IS OF BULK AT MOST 1048576: true; the input reads as it did. -/
def ggaTakesUptoRow : OpenClaim := { program := "ytkjmcgjlkheamaadoor", sum := "e203d103124b3d15e9834dd2e9b1a74dff0220216826c14ffbc7d796d44ec15b", func := "landfall/landfalllaw25.GgaTakes", spec := "ggaTakes", inPlace := ["internal/bytealg.IndexByteString", "internal/bytealg.IndexString"], unfollowed := true, recurses := true, named := ["unicode/utf8.first", "unicode/utf8.acceptRanges", "internal/bytealg.MaxLen"], apart := false, laid := [("unicode/utf8.acceptRanges", laid_unicode_utf8_acceptRanges), ("unicode/utf8.first", laid_unicode_utf8_first)], narrowed := true }
def GgaTakesUptoSaid : Prop := ggaTakesUptoRow.holds Tryd.pinned (OpenSpec.upto ggaTakesSpec)

/-- 'landfalllaw25.GgaBack', WHERE WHAT IT READS IS OF BULK AT MOST 1048576: true; the input reads as it did. -/
def ggaBackUptoRow : OpenClaim := { program := "ytkjmcgjlkheamaadoor", sum := "e203d103124b3d15e9834dd2e9b1a74dff0220216826c14ffbc7d796d44ec15b", func := "landfall/landfalllaw25.GgaBack", spec := "ggaBack", inPlace := ["internal/bytealg.IndexByteString", "internal/bytealg.IndexString"], unfollowed := true, recurses := true, named := ["unicode/utf8.first", "unicode/utf8.acceptRanges", "internal/bytealg.MaxLen"], apart := false, laid := [("unicode/utf8.acceptRanges", laid_unicode_utf8_acceptRanges), ("unicode/utf8.first", laid_unicode_utf8_first)], narrowed := true }
def GgaBackUptoSaid : Prop := ggaBackUptoRow.holds Tryd.pinned (OpenSpec.upto ggaBackSpec)

/-- 'landfalllaw26.RmcBack', WHERE WHAT IT READS IS OF BULK AT MOST 1048576: true; the input reads as it did. -/
def rmcBackUptoRow : OpenClaim := { program := "ytkjmcgjlkheamaadoor", sum := "e203d103124b3d15e9834dd2e9b1a74dff0220216826c14ffbc7d796d44ec15b", func := "landfall/landfalllaw26.RmcBack", spec := "rmcBack", inPlace := ["internal/bytealg.IndexByteString", "internal/bytealg.IndexString"], unfollowed := true, recurses := true, named := ["unicode/utf8.first", "unicode/utf8.acceptRanges", "internal/bytealg.MaxLen"], apart := false, laid := [("unicode/utf8.acceptRanges", laid_unicode_utf8_acceptRanges), ("unicode/utf8.first", laid_unicode_utf8_first)], narrowed := true }
def RmcBackUptoSaid : Prop := rmcBackUptoRow.holds Tryd.pinned (OpenSpec.upto rmcBackSpec)

/-- 'landfalllaw27.GsaPuts', WHERE WHAT IT READS IS OF BULK AT MOST 1048576: true; the input reads as it did. -/
def gsaPutsUptoRow : OpenClaim := { program := "ytkjmcgjlkheamaadoor", sum := "e203d103124b3d15e9834dd2e9b1a74dff0220216826c14ffbc7d796d44ec15b", func := "landfall/landfalllaw27.GsaPuts", spec := "gsaPuts", inPlace := ["internal/bytealg.IndexByteString", "internal/bytealg.IndexString"], unfollowed := true, recurses := true, named := ["unicode/utf8.first", "unicode/utf8.acceptRanges", "internal/bytealg.MaxLen"], apart := false, laid := [("unicode/utf8.acceptRanges", laid_unicode_utf8_acceptRanges), ("unicode/utf8.first", laid_unicode_utf8_first)], narrowed := true }
def GsaPutsUptoSaid : Prop := gsaPutsUptoRow.holds Tryd.pinned (OpenSpec.upto gsaPutsSpec)

/-- 'landfalllaw27.GsaBack', WHERE WHAT IT READS IS OF BULK AT MOST 1048576: true; the input reads as it did. -/
def gsaBackUptoRow : OpenClaim := { program := "ytkjmcgjlkheamaadoor", sum := "e203d103124b3d15e9834dd2e9b1a74dff0220216826c14ffbc7d796d44ec15b", func := "landfall/landfalllaw27.GsaBack", spec := "gsaBack", inPlace := ["internal/bytealg.IndexByteString", "internal/bytealg.IndexString"], unfollowed := true, recurses := true, named := ["unicode/utf8.first", "unicode/utf8.acceptRanges", "internal/bytealg.MaxLen"], apart := false, laid := [("unicode/utf8.acceptRanges", laid_unicode_utf8_acceptRanges), ("unicode/utf8.first", laid_unicode_utf8_first)], narrowed := true }
def GsaBackUptoSaid : Prop := gsaBackUptoRow.holds Tryd.pinned (OpenSpec.upto gsaBackSpec)

end Rows
end Go.Proofs.YtkjmcgjlkheamaaDoor
