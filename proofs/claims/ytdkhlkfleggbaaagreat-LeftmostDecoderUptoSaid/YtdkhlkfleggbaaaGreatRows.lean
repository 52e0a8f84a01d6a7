/-
  No cell of these rows narrows 'for every input' (looked for: loops, veiled, ifaces, maps, wideKeys, modest, calm, conditions, laid).
  DERIVED. THE GIVEN ROWS OF THIS SEAT. 6 by the template 'for every input the law returns true; each argument reads behind the call as it read before'; 0 by the template 'total and deterministic' (their statements: YtdkhlkfleggbaaaGreatTotals.lean).
  GIVEN WITH THE SEED: the statements are not yours to turn. If you find one false, say at which input.
  Laid BY PROGRAM, IN A SANDBOX (cutbox-rows.mjs): the forced cells as the released guide's own fill.sh prints them over the translation 7f64ddcdffa1fb5a… (all of the seat's roots in one cut). By AI agents, Wed Nov 11 2026. No macro, syntax, notation, axiom, sorry.
-/
import Derived.Test.YtdkhlkfleggbaaaGreatChecked
import GoSem.Claim
import GoSem.ClaimJoined
import GoSem.ClaimMapViews
import Derived.JoinedTies
import Derived.KernelRfl
namespace Go.Proofs.YtdkhlkfleggbaaaGreat
/- THE CELL 'sum', in the pinned program and in every row, IS THE sha256 OF THE DUMP (.gsa) THAT YtdkhlkfleggbaaaGreatProg.lean LOADS. Nothing in Lean hashes anything: it is a label: what it is worth is what the hold of that sum in a sandbox is worth. -/
noncomputable def Tryz.pinned : Pinned := { name := "ytdkhlkfleggbaaagreat", sum := "7f64ddcdffa1fb5a60d913f8b74ac7ca7e85fe38a54f8b281b1c4a13d50ed980", checked := Tryz.checked }
namespace Rows
def none {H : Type} : Left H := { results := [], args := [] }

/-- 'landfalllaw38.ProbeSteady': WHATEVER THE INPUT: true; the input reads as it did. -/
def probeSteadySpec : ChangeSpec := { name := "probeSteady", fn := fun _ => fun
  | [d1, d2] => { results := [.lit (.bool true)], args := [d1, d2] }
  | _ => none }
def probeSteadyRow : OpenClaim := { program := "ytdkhlkfleggbaaagreat", sum := "7f64ddcdffa1fb5a60d913f8b74ac7ca7e85fe38a54f8b281b1c4a13d50ed980", func := "landfall/landfalllaw38.ProbeSteady", spec := "probeSteady", inPlace := ["internal/bytealg.IndexByteString", "internal/bytealg.IndexString"], unfollowed := true, recurses := true, named := ["internal/bytealg.MaxLen"], apart := false }
def ProbeSteadySaid : Prop := probeSteadyRow.holds Tryz.pinned (OpenSpec.ofChange probeSteadySpec)

/-- ITS FALSE NEIGHBOUR: 'it returns false'. Refute it at one input. -/
def probeSteadyWrong : ChangeSpec := { name := "probeSteady", fn := fun _ => fun
  | [d1, d2] => { results := [.lit (.bool false)], args := [d1, d2] }
  | _ => none }
def ProbeSteadyWrongFalsely : Prop := probeSteadyRow.holds Tryz.pinned (OpenSpec.ofChange probeSteadyWrong)

/-- 'landfalllaw38.ProbeFull': WHATEVER THE INPUT: true; the input reads as it did. -/
def probeFullSpec : ChangeSpec := { name := "probeFull", fn := fun _ => fun
  | [d] => { results := [.lit (.bool true)], args := [d] }
  | _ => none }
def probeFullRow : OpenClaim := { program := "ytdkhlkfleggbaaagreat", sum := "7f64ddcdffa1fb5a60d913f8b74ac7ca7e85fe38a54f8b281b1c4a13d50ed980", func := "landfall/landfalllaw38.ProbeFull", spec := "probeFull", inPlace := ["internal/bytealg.IndexByteString", "internal/bytealg.IndexString"], unfollowed := true, recurses := true, named := ["internal/bytealg.MaxLen"], apart := false }
def ProbeFullSaid : Prop := probeFullRow.holds Tryz.pinned (OpenSpec.ofChange probeFullSpec)

/-- ITS FALSE NEIGHBOUR: 'it returns false'. Refute it at one input. -/
def probeFullWrong : ChangeSpec := { name := "probeFull", fn := fun _ => fun
  | [d] => { results := [.lit (.bool false)], args := [d] }
  | _ => none }
def ProbeFullWrongFalsely : Prop := probeFullRow.holds Tryz.pinned (OpenSpec.ofChange probeFullWrong)

/-- 'landfalllaw41.LeftmostJoins': WHATEVER THE INPUT: true; the input reads as it did. -/
def leftmostJoinsSpec : ChangeSpec := { name := "leftmostJoins", fn := fun _ => fun
  | [d1, d2] => { results := [.lit (.bool true)], args := [d1, d2] }
  | _ => none }
def leftmostJoinsRow : OpenClaim := { program := "ytdkhlkfleggbaaagreat", sum := "7f64ddcdffa1fb5a60d913f8b74ac7ca7e85fe38a54f8b281b1c4a13d50ed980", func := "landfall/landfalllaw41.LeftmostJoins", spec := "leftmostJoins", inPlace := ["internal/bytealg.IndexByteString", "internal/bytealg.IndexString"], unfollowed := true, recurses := true, named := ["internal/bytealg.MaxLen"], apart := false }
def LeftmostJoinsSaid : Prop := leftmostJoinsRow.holds Tryz.pinned (OpenSpec.ofChange leftmostJoinsSpec)

/-- ITS FALSE NEIGHBOUR: 'it returns false'. Refute it at one input. -/
def leftmostJoinsWrong : ChangeSpec := { name := "leftmostJoins", fn := fun _ => fun
  | [d1, d2] => { results := [.lit (.bool false)], args := [d1, d2] }
  | _ => none }
def LeftmostJoinsWrongFalsely : Prop := leftmostJoinsRow.holds Tryz.pinned (OpenSpec.ofChange leftmostJoinsWrong)

/-- 'landfalllaw40.ResyncCut': WHATEVER THE INPUT: true; the input reads as it did. -/
def resyncCutSpec : ChangeSpec := { name := "resyncCut", fn := fun _ => fun
  | [d] => { results := [.lit (.bool true)], args := [d] }
  | _ => none }
def resyncCutRow : OpenClaim := { program := "ytdkhlkfleggbaaagreat", sum := "7f64ddcdffa1fb5a60d913f8b74ac7ca7e85fe38a54f8b281b1c4a13d50ed980", func := "landfall/landfalllaw40.ResyncCut", spec := "resyncCut", inPlace := ["internal/bytealg.IndexByteString", "internal/bytealg.IndexString"], unfollowed := true, recurses := true, named := ["internal/bytealg.MaxLen"], apart := false }
def ResyncCutSaid : Prop := resyncCutRow.holds Tryz.pinned (OpenSpec.ofChange resyncCutSpec)

/-- ITS FALSE NEIGHBOUR: 'it returns false'. Refute it at one input. -/
def resyncCutWrong : ChangeSpec := { name := "resyncCut", fn := fun _ => fun
  | [d] => { results := [.lit (.bool false)], args := [d] }
  | _ => none }
def ResyncCutWrongFalsely : Prop := resyncCutRow.holds Tryz.pinned (OpenSpec.ofChange resyncCutWrong)

/-- 'landfalllaw40.ResyncSum': WHATEVER THE INPUT: true; the input reads as it did. -/
def resyncSumSpec : ChangeSpec := { name := "resyncSum", fn := fun _ => fun
  | [d] => { results := [.lit (.bool true)], args := [d] }
  | _ => none }
def resyncSumRow : OpenClaim := { program := "ytdkhlkfleggbaaagreat", sum := "7f64ddcdffa1fb5a60d913f8b74ac7ca7e85fe38a54f8b281b1c4a13d50ed980", func := "landfall/landfalllaw40.ResyncSum", spec := "resyncSum", inPlace := ["internal/bytealg.IndexByteString", "internal/bytealg.IndexString"], unfollowed := true, recurses := true, named := ["internal/bytealg.MaxLen"], apart := false }
def ResyncSumSaid : Prop := resyncSumRow.holds Tryz.pinned (OpenSpec.ofChange resyncSumSpec)

/-- ITS FALSE NEIGHBOUR: 'it returns false'. Refute it at one input. -/
def resyncSumWrong : ChangeSpec := { name := "resyncSum", fn := fun _ => fun
  | [d] => { results := [.lit (.bool false)], args := [d] }
  | _ => none }
def ResyncSumWrongFalsely : Prop := resyncSumRow.holds Tryz.pinned (OpenSpec.ofChange resyncSumWrong)

/-- 'landfalllaw41.LeftmostDecoder': WHATEVER THE INPUT: true; the input reads as it did. -/
def leftmostDecoderSpec : ChangeSpec := { name := "leftmostDecoder", fn := fun _ => fun
  | [d] => { results := [.lit (.bool true)], args := [d] }
  | _ => none }
def leftmostDecoderRow : OpenClaim := { program := "ytdkhlkfleggbaaagreat", sum := "7f64ddcdffa1fb5a60d913f8b74ac7ca7e85fe38a54f8b281b1c4a13d50ed980", func := "landfall/landfalllaw41.LeftmostDecoder", spec := "leftmostDecoder", inPlace := ["internal/bytealg.IndexByteString", "internal/bytealg.IndexString"], unfollowed := true, recurses := true, named := ["internal/bytealg.MaxLen"], apart := false }
def LeftmostDecoderSaid : Prop := leftmostDecoderRow.holds Tryz.pinned (OpenSpec.ofChange leftmostDecoderSpec)

/-- ITS FALSE NEIGHBOUR: 'it returns false'. Refute it at one input. -/
def leftmostDecoderWrong : ChangeSpec := { name := "leftmostDecoder", fn := fun _ => fun
  | [d] => { results := [.lit (.bool false)], args := [d] }
  | _ => none }
def LeftmostDecoderWrongFalsely : Prop := leftmostDecoderRow.holds Tryz.pinned (OpenSpec.ofChange leftmostDecoderWrong)

/- THE SECOND FORM. 'bulk': how many values and letters a reading holds, each counted each time it is reached (what is shared counts as often as it is met; a slice's spare places count too). A statement '..UptoSaid' is the law's where the arguments, and the package variables that the reading takes, are together of bulk at most 1048576: NARROWER than '..Said'. Prove '..Said' where nothing that the law and all that it calls make is longer than what came in: it says more and counts as full. Else prove '..UptoSaid'. A law counts once. -/
mutual
def uptoBulk {H : Type} : DataW H → Nat
  | .lit (.string bytes) => bytes.length + 1
  | .lit _ => 1
  | .nil => 1
  | .ptr d => uptoBulk d + 1
  | .slice elems spare => uptoBulkAll elems + uptoBulkAll spare + 1
  | .agg parts => uptoBulkAll parts + 1
  | .iface _ d => uptoBulk d + 1
  | .map entries => uptoBulkEntries entries + 1
  | .held _ => 1
def uptoBulkAll {H : Type} : List (DataW H) → Nat
  | [] => 0
  | d :: r => uptoBulk d + uptoBulkAll r
def uptoBulkEntries {H : Type} : List (Lit × DataW H) → Nat
  | [] => 0
  | x :: r => uptoBulkEntry x + uptoBulkEntries r
def uptoBulkEntry {H : Type} : Lit × DataW H → Nat
  | (.string bytes, d) => bytes.length + uptoBulk d + 1
  | (_, d) => uptoBulk d + 1
 end
def uptoSmall : (H : Type) → List (DataW H) → Bool := fun _ ds => decide (uptoBulkAll ds ≤ 1048576)
def OpenSpec.upto (s : _root_.Go.ChangeSpec) : _root_.Go.OpenSpec := { _root_.Go.OpenSpec.ofChange s with cond := some uptoSmall }

/-- 'landfalllaw38.ProbeSteady', WHERE WHAT IT READS IS OF BULK AT MOST 1048576: true; the input reads as it did. -/
def probeSteadyUptoRow : OpenClaim := { program := "ytdkhlkfleggbaaagreat", sum := "7f64ddcdffa1fb5a60d913f8b74ac7ca7e85fe38a54f8b281b1c4a13d50ed980", func := "landfall/landfalllaw38.ProbeSteady", spec := "probeSteady", inPlace := ["internal/bytealg.IndexByteString", "internal/bytealg.IndexString"], unfollowed := true, recurses := true, named := ["internal/bytealg.MaxLen"], apart := false, narrowed := true }
def ProbeSteadyUptoSaid : Prop := probeSteadyUptoRow.holds Tryz.pinned (OpenSpec.upto probeSteadySpec)

/-- 'landfalllaw38.ProbeFull', WHERE WHAT IT READS IS OF BULK AT MOST 1048576: true; the input reads as it did. -/
def probeFullUptoRow : OpenClaim := { program := "ytdkhlkfleggbaaagreat", sum := "7f64ddcdffa1fb5a60d913f8b74ac7ca7e85fe38a54f8b281b1c4a13d50ed980", func := "landfall/landfalllaw38.ProbeFull", spec := "probeFull", inPlace := ["internal/bytealg.IndexByteString", "internal/bytealg.IndexString"], unfollowed := true, recurses := true, named := ["internal/bytealg.MaxLen"], apart := false, narrowed := true }
def ProbeFullUptoSaid : Prop := probeFullUptoRow.holds Tryz.pinned (OpenSpec.upto probeFullSpec)

/-- 'landfalllaw41.LeftmostJoins', WHERE WHAT IT READS IS OF BULK AT MOST 1048576: true; the input reads as it did. -/
def leftmostJoinsUptoRow : OpenClaim := { program := "ytdkhlkfleggbaaagreat", sum := "7f64ddcdffa1fb5a60d913f8b74ac7ca7e85fe38a54f8b281b1c4a13d50ed980", func := "landfall/landfalllaw41.LeftmostJoins", spec := "leftmostJoins", inPlace := ["internal/bytealg.IndexByteString", "internal/bytealg.IndexString"], unfollowed := true, recurses := true, named := ["internal/bytealg.MaxLen"], apart := false, narrowed := true }
def LeftmostJoinsUptoSaid : Prop := leftmostJoinsUptoRow.holds Tryz.pinned (OpenSpec.upto leftmostJoinsSpec)

/-- 'landfalllaw40.ResyncCut', WHERE WHAT IT READS IS OF BULK AT MOST 1048576: true; the input reads as it did. -/
def resyncCutUptoRow : OpenClaim := { program := "ytdkhlkfleggbaaagreat", sum := "7f64ddcdffa1fb5a60d913f8b74ac7ca7e85fe38a54f8b281b1c4a13d50ed980", func := "landfall/landfalllaw40.ResyncCut", spec := "resyncCut", inPlace := ["internal/bytealg.IndexByteString", "internal/bytealg.IndexString"], unfollowed := true, recurses := true, named := ["internal/bytealg.MaxLen"], apart := false, narrowed := true }
def ResyncCutUptoSaid : Prop := resyncCutUptoRow.holds Tryz.pinned (OpenSpec.upto resyncCutSpec)

/-- 'landfalllaw40.ResyncSum', WHERE WHAT IT READS IS OF BULK AT MOST 1048576: true; the input reads as it did. -/
def resyncSumUptoRow : OpenClaim := { program := "ytdkhlkfleggbaaagreat", sum := "7f64ddcdffa1fb5a60d913f8b74ac7ca7e85fe38a54f8b281b1c4a13d50ed980", func := "landfall/landfalllaw40.ResyncSum", spec := "resyncSum", inPlace := ["internal/bytealg.IndexByteString", "internal/bytealg.IndexString"], unfollowed := true, recurses := true, named := ["internal/bytealg.MaxLen"], apart := false, narrowed := true }
def ResyncSumUptoSaid : Prop := resyncSumUptoRow.holds Tryz.pinned (OpenSpec.upto resyncSumSpec)

/-- 'landfalllaw41.LeftmostDecoder', WHERE WHAT IT READS IS OF BULK AT MOST 1048576: true; the input reads as it did. -/
def leftmostDecoderUptoRow : OpenClaim := { program := "ytdkhlkfleggbaaagreat", sum := "7f64ddcdffa1fb5a60d913f8b74ac7ca7e85fe38a54f8b281b1c4a13d50ed980", func := "landfall/landfalllaw41.LeftmostDecoder", spec := "leftmostDecoder", inPlace := ["internal/bytealg.IndexByteString", "internal/bytealg.IndexString"], unfollowed := true, recurses := true, named := ["internal/bytealg.MaxLen"], apart := false, narrowed := true }
def LeftmostDecoderUptoSaid : Prop := leftmostDecoderUptoRow.holds Tryz.pinned (OpenSpec.upto leftmostDecoderSpec)

end Rows
end Go.Proofs.YtdkhlkfleggbaaaGreat
