/- Layer 33: the book's keys and elements, as the model has them. -/
import Derived.Test.YtloebedipfppeaaChecked
import Derived.Test.YtloebedipfppeaaBas
import Derived.Maps.RangeWalk
import Derived.Maps.OwnSet
import Derived.DeepKeys4
namespace Go.Proofs.Ytloebedipfppeaa
set_option linter.unusedVariables false
open Go.RowKit
open Go.Maps (Keyed)

abbrev kT : TypeId := 51
theorem gapLaid : laidOutB Try.prog = true := by kernel_rfl
theorem kRow : (kT : TypeId) < Try.prog.types.size := of_decide_eq_true (by kernel_rfl)
theorem kWide : (match Try.prog.underlying kT with | some (.array _ _) | some (.struct _) => true | _ => false) = true := by rw [Try.underlying51]
theorem kLaw : WideMaps.KeyLaw Try.prog kT := deep_law_laid gapLaid (m := 2) (by omega) kRow (by kernel_rfl) kWide
theorem kKeyed : Keyed Try.prog kT := Keyed.of_law kLaw
abbrev keyV (s c : Int) : Value := .agg #[.int .i64 s, .int .i64 c]
theorem kSize : ∃ n, Try.prog.types.size + 1 = n + 2 := ⟨Try.prog.types.size - 1, by have : 1 < Try.prog.types.size := of_decide_eq_true (by kernel_rfl); omega⟩
theorem kCells : Try.prog.cellsOf kT = 2 := by kernel_rfl
theorem iCells : Try.prog.cellsOf 3 = 1 := by kernel_rfl
theorem key_lits {s c : Int} (hs : (Lit.int .i64 s).wf = true) (hc : (Lit.int .i64 c).wf = true) : keyOf Try.prog kT (keyV s c) = some (.string (keyBytes [.int .i64 s, .int .i64 c])) := by
  obtain ⟨n, hn⟩ := kSize
  have h1 : Try.prog.keyType kT = true := by kernel_rfl
  have h2 : (keyV s c).formed Try.prog kT = true := by simp [Value.formed, Try.underlying51, kCells]
  unfold keyOf
  rw [Try.underlying51]
  simp only [h1, h2, Bool.and_self, if_true, hn]
  simp [Program.keyLits, kCells, iCells, Try.underlying51, Try.underlying3, Value.cells, hs, hc]
end Go.Proofs.Ytloebedipfppeaa
