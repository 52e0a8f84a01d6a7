/-
  No cell of these rows narrows 'for every input' (looked for: loops, veiled, ifaces, maps, wideKeys, modest, calm, conditions, laid).
  DERIVED. THE GIVEN ROWS OF THIS SEAT. 4 by the template 'for every input the law returns true; each argument reads behind the call as it read before'; 0 by the template 'total and deterministic' (their statements: YtoabkoniegmkaaaGreatTotals.lean).
  GIVEN WITH THE SEED: the statements are not yours to turn. If you find one false, say at which input.
  Laid BY PROGRAM, IN A SANDBOX (cutbox-rows.mjs): the forced cells as the released guide's own fill.sh prints them over the translation 978e35e3af61ed81… (all of the seat's roots in one cut). By AI agents, Wed Nov 11 2026. No macro, syntax, notation, axiom, sorry.
-/
import Derived.Test.YtoabkoniegmkaaaGreatChecked
import GoSem.Claim
import GoSem.ClaimJoined
import GoSem.ClaimMapViews
import Derived.JoinedTies
import Derived.KernelRfl
namespace Go.Proofs.YtoabkoniegmkaaaGreat
/- THE CELL 'sum', in the pinned program and in every row, IS THE sha256 OF THE DUMP (.gsa) THAT YtoabkoniegmkaaaGreatProg.lean LOADS. Nothing in Lean hashes anything: it is a label: what it is worth is what the hold of that sum in a sandbox is worth. -/
noncomputable def Tryz.pinned : Pinned := { name := "ytoabkoniegmkaaagreat", sum := "978e35e3af61ed8129dcb0bdb8cfd4cb51d40e49b9fa0f86433c24565c3cba0d", checked := Tryz.checked }
namespace Rows
def none {H : Type} : Left H := { results := [], args := [] }

/-- 'landfalllaw30.NmeaTakes': WHATEVER THE INPUT: true; the input reads as it did. -/
def nmeaTakesSpec : ChangeSpec := { name := "nmeaTakes", fn := fun _ => fun
  | [d1, d2] => { results := [.lit (.bool true)], args := [d1, d2] }
  | _ => none }
def nmeaTakesRow : OpenClaim := { program := "ytoabkoniegmkaaagreat", sum := "978e35e3af61ed8129dcb0bdb8cfd4cb51d40e49b9fa0f86433c24565c3cba0d", func := "landfall/landfalllaw30.NmeaTakes", spec := "nmeaTakes", inPlace := ["internal/abi.NoEscape", "internal/bytealg.IndexByteString", "internal/bytealg.IndexString"], unfollowed := true, recurses := true, named := ["internal/bytealg.MaxLen"], apart := false }
def NmeaTakesSaid : Prop := nmeaTakesRow.holds Tryz.pinned (OpenSpec.ofChange nmeaTakesSpec)

/-- ITS FALSE NEIGHBOUR: 'it returns false'. Refute it at one input. -/
def nmeaTakesWrong : ChangeSpec := { name := "nmeaTakes", fn := fun _ => fun
  | [d1, d2] => { results := [.lit (.bool false)], args := [d1, d2] }
  | _ => none }
def NmeaTakesWrongFalsely : Prop := nmeaTakesRow.holds Tryz.pinned (OpenSpec.ofChange nmeaTakesWrong)

/-- 'landfalllaw30.NmeaAgain': WHATEVER THE INPUT: true; the input reads as it did. -/
def nmeaAgainSpec : ChangeSpec := { name := "nmeaAgain", fn := fun _ => fun
  | [d] => { results := [.lit (.bool true)], args := [d] }
  | _ => none }
def nmeaAgainRow : OpenClaim := { program := "ytoabkoniegmkaaagreat", sum := "978e35e3af61ed8129dcb0bdb8cfd4cb51d40e49b9fa0f86433c24565c3cba0d", func := "landfall/landfalllaw30.NmeaAgain", spec := "nmeaAgain", inPlace := ["internal/abi.NoEscape", "internal/bytealg.IndexByteString", "internal/bytealg.IndexString"], unfollowed := true, recurses := true, named := ["internal/bytealg.MaxLen"], apart := false }
def NmeaAgainSaid : Prop := nmeaAgainRow.holds Tryz.pinned (OpenSpec.ofChange nmeaAgainSpec)

/-- ITS FALSE NEIGHBOUR: 'it returns false'. Refute it at one input. -/
def nmeaAgainWrong : ChangeSpec := { name := "nmeaAgain", fn := fun _ => fun
  | [d] => { results := [.lit (.bool false)], args := [d] }
  | _ => none }
def NmeaAgainWrongFalsely : Prop := nmeaAgainRow.holds Tryz.pinned (OpenSpec.ofChange nmeaAgainWrong)

/-- 'landfalllaw30.NmeaPuts': WHATEVER THE INPUT: true; the input reads as it did. -/
def nmeaPutsSpec : ChangeSpec := { name := "nmeaPuts", fn := fun _ => fun
  | [d] => { results := [.lit (.bool true)], args := [d] }
  | _ => none }
def nmeaPutsRow : OpenClaim := { program := "ytoabkoniegmkaaagreat", sum := "978e35e3af61ed8129dcb0bdb8cfd4cb51d40e49b9fa0f86433c24565c3cba0d", func := "landfall/landfalllaw30.NmeaPuts", spec := "nmeaPuts", inPlace := ["internal/abi.NoEscape", "internal/bytealg.IndexByteString", "internal/bytealg.IndexString"], unfollowed := true, recurses := true, named := ["internal/bytealg.MaxLen"], apart := false }
def NmeaPutsSaid : Prop := nmeaPutsRow.holds Tryz.pinned (OpenSpec.ofChange nmeaPutsSpec)

/-- ITS FALSE NEIGHBOUR: 'it returns false'. Refute it at one input. -/
def nmeaPutsWrong : ChangeSpec := { name := "nmeaPuts", fn := fun _ => fun
  | [d] => { results := [.lit (.bool false)], args := [d] }
  | _ => none }
def NmeaPutsWrongFalsely : Prop := nmeaPutsRow.holds Tryz.pinned (OpenSpec.ofChange nmeaPutsWrong)

/-- 'landfalllaw30.NmeaBack': WHATEVER THE INPUT: true; the input reads as it did. -/
def nmeaBackSpec : ChangeSpec := { name := "nmeaBack", fn := fun _ => fun
  | [d1, d2] => { results := [.lit (.bool true)], args := [d1, d2] }
  | _ => none }
def nmeaBackRow : OpenClaim := { program := "ytoabkoniegmkaaagreat", sum := "978e35e3af61ed8129dcb0bdb8cfd4cb51d40e49b9fa0f86433c24565c3cba0d", func := "landfall/landfalllaw30.NmeaBack", spec := "nmeaBack", inPlace := ["internal/abi.NoEscape", "internal/bytealg.IndexByteString", "internal/bytealg.IndexString"], unfollowed := true, recurses := true, named := ["internal/bytealg.MaxLen"], apart := false }
def NmeaBackSaid : Prop := nmeaBackRow.holds Tryz.pinned (OpenSpec.ofChange nmeaBackSpec)

/-- ITS FALSE NEIGHBOUR: 'it returns false'. Refute it at one input. -/
def nmeaBackWrong : ChangeSpec := { name := "nmeaBack", fn := fun _ => fun
  | [d1, d2] => { results := [.lit (.bool false)], args := [d1, d2] }
  | _ => none }
def NmeaBackWrongFalsely : Prop := nmeaBackRow.holds Tryz.pinned (OpenSpec.ofChange nmeaBackWrong)

/- THE SECOND FORM. 'bulk': how many values and letters a reading holds, each counted each time it is reached (what is shared counts as often as it is met; a slice's spare places count too). A statement '..UptoSaid' is the law's where the arguments, and the package variables that the reading takes, are together of bulk at most 1048576: NARROWER than '..Said'. Prove '..Said' where nothing that the law and all that it calls make is longer than what came in: it says more and counts as full. Else prove '..UptoSaid'. A law counts once. -/
mutual
def uptoBulk {H : Type} : DataW H → Nat
  | .lit (.string bytes) => bytes.length + 1
  | .lit _ => 1
  | .nil => 1
  | .ptr d => uptoBulk d + 1
  | .slice elems spare => uptoBulkAll elems + uptoBulkAll spare + 1
  | .agg parts => uptoBulkAll parts + 1
  | .iface _ d => uptoBulk d + 1
  | .map entries => uptoBulkEntries entries + 1
  | .held _ => 1
def uptoBulkAll {H : Type} : List (DataW H) → Nat
  | [] => 0
  | d :: r => uptoBulk d + uptoBulkAll r
def uptoBulkEntries {H : Type} : List (Lit × DataW H) → Nat
  | [] => 0
  | x :: r => uptoBulkEntry x + uptoBulkEntries r
def uptoBulkEntry {H : Type} : Lit × DataW H → Nat
  | (.string bytes, d) => bytes.length + uptoBulk d + 1
  | (_, d) => uptoBulk d + 1
 end
def uptoSmall : (H : Type) → List (DataW H) → Bool := fun _ ds => decide (uptoBulkAll ds ≤ 1048576)
def OpenSpec.upto (s : _root_.Go.ChangeSpec) : _root_.Go.OpenSpec := { _root_.Go.OpenSpec.ofChange s with cond := some uptoSmall }

/-- 'landfalllaw30.NmeaTakes', WHERE WHAT IT READS IS OF BULK AT MOST 1048576: true; the input reads as it did. -/
def nmeaTakesUptoRow : OpenClaim := { program := "ytoabkoniegmkaaagreat", sum := "978e35e3af61ed8129dcb0bdb8cfd4cb51d40e49b9fa0f86433c24565c3cba0d", func := "landfall/landfalllaw30.NmeaTakes", spec := "nmeaTakes", inPlace := ["internal/abi.NoEscape", "internal/bytealg.IndexByteString", "internal/bytealg.IndexString"], unfollowed := true, recurses := true, named := ["internal/bytealg.MaxLen"], apart := false, narrowed := true }
def NmeaTakesUptoSaid : Prop := nmeaTakesUptoRow.holds Tryz.pinned (OpenSpec.upto nmeaTakesSpec)

/-- 'landfalllaw30.NmeaAgain', WHERE WHAT IT READS IS OF BULK AT MOST 1048576: true; the input reads as it did. -/
def nmeaAgainUptoRow : OpenClaim := { program := "ytoabkoniegmkaaagreat", sum := "978e35e3af61ed8129dcb0bdb8cfd4cb51d40e49b9fa0f86433c24565c3cba0d", func := "landfall/landfalllaw30.NmeaAgain", spec := "nmeaAgain", inPlace := ["internal/abi.NoEscape", "internal/bytealg.IndexByteString", "internal/bytealg.IndexString"], unfollowed := true, recurses := true, named := ["internal/bytealg.MaxLen"], apart := false, narrowed := true }
def NmeaAgainUptoSaid : Prop := nmeaAgainUptoRow.holds Tryz.pinned (OpenSpec.upto nmeaAgainSpec)

/-- 'landfalllaw30.NmeaPuts', WHERE WHAT IT READS IS OF BULK AT MOST 1048576: true; the input reads as it did. -/
def nmeaPutsUptoRow : OpenClaim := { program := "ytoabkoniegmkaaagreat", sum := "978e35e3af61ed8129dcb0bdb8cfd4cb51d40e49b9fa0f86433c24565c3cba0d", func := "landfall/landfalllaw30.NmeaPuts", spec := "nmeaPuts", inPlace := ["internal/abi.NoEscape", "internal/bytealg.IndexByteString", "internal/bytealg.IndexString"], unfollowed := true, recurses := true, named := ["internal/bytealg.MaxLen"], apart := false, narrowed := true }
def NmeaPutsUptoSaid : Prop := nmeaPutsUptoRow.holds Tryz.pinned (OpenSpec.upto nmeaPutsSpec)

/-- 'landfalllaw30.NmeaBack', WHERE WHAT IT READS IS OF BULK AT MOST 1048576: true; the input reads as it did. -/
def nmeaBackUptoRow : OpenClaim := { program := "ytoabkoniegmkaaagreat", sum := "978e35e3af61ed8129dcb0bdb8cfd4cb51d40e49b9fa0f86433c24565c3cba0d", func := "landfall/landfalllaw30.NmeaBack", spec := "nmeaBack", inPlace := ["internal/abi.NoEscape", "internal/bytealg.IndexByteString", "internal/bytealg.IndexString"], unfollowed := true, recurses := true, named := ["internal/bytealg.MaxLen"], apart := false, narrowed := true }
def NmeaBackUptoSaid : Prop := nmeaBackUptoRow.holds Tryz.pinned (OpenSpec.upto nmeaBackSpec)

end Rows
end Go.Proofs.YtoabkoniegmkaaaGreat
