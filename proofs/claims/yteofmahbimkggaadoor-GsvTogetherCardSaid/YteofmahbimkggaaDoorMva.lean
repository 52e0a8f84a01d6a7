/- Layer 28: columns, places, letters. -/
import Derived.Test.YteofmahbimkggaaDoorMh
import Derived.Deep.RegionWith
import Derived.Deep.DeepCutAuto
import Derived.Deep.CutBlock
namespace Go.Proofs.YteofmahbimkggaaDoor
set_option linter.unusedVariables false
open Go.RowKit

/-- A message as a value; its cells. -/
abbrev vtgC (b0 : Bool) (n0 : Int) (b1 : Bool) (n1 : Int) (b2 : Bool) (n2 : Int) (b3 : Bool) (n3 : Int) : Array Value := #[.bool b0, .int .i64 n0, .bool b1, .int .i64 n1, .bool b2, .int .i64 n2, .bool b3, .int .i64 n3]
abbrev vtgV (b0 : Bool) (n0 : Int) (b1 : Bool) (n1 : Int) (b2 : Bool) (n2 : Int) (b3 : Bool) (n3 : Int) : Value := .agg (vtgC b0 n0 b1 n1 b2 n2 b3 n3)
/-- A column with its letter. -/
abbrev clC (W M F L H : Int) (c : ByteArray) : Array Value := #[.int .i64 W, .int .i64 M, .int .i64 F, .int .i64 L, .int .i64 H, .string c]
abbrev clV (W M F L H : Int) (c : ByteArray) : Value := .agg (clC W M F L H c)
abbrev clCells : Array Value := #[.int .i64 1, .int .i64 3, .int .i64 2, .int .i64 0, .int .i64 36000, .string ⟨#[84]⟩, .int .i64 1, .int .i64 3, .int .i64 2, .int .i64 0, .int .i64 36000, .string ⟨#[77]⟩, .int .i64 1, .int .i64 4, .int .i64 2, .int .i64 0, .int .i64 999999, .string ⟨#[78]⟩, .int .i64 1, .int .i64 4, .int .i64 2, .int .i64 0, .int .i64 999999, .string ⟨#[75]⟩]
theorem isEmpty_text (a : ByteArray) : a.toList.isEmpty = decide (a = ByteArray.empty) := by
  rw [← beq_text]
  have : ByteArray.empty.toList = [] := by rw [ByteArray.toList_eq]; rfl
  rw [this]
  cases a.toList <;> rfl
def ColsPost (w : World) (r : Ending) (w' : World) : Prop := ∃ h, r = .returned (.slice (some ⟨h, 0, none⟩) 4 4) ∧ (∀ o, w'.cell? ⟨h, o, none⟩ = clCells[o]?) ∧ w.heap.size ≤ h ∧ h < w'.heap.size ∧ Below w.heap.size w w'
abbrev ptrC (M : Nat) : Array Value := #[.pointer (some ⟨M, 0, none⟩), .pointer (some ⟨M, 2, none⟩), .pointer (some ⟨M, 4, none⟩), .pointer (some ⟨M, 6, none⟩)]
end Go.Proofs.YteofmahbimkggaaDoor

/- Layer 28: Put. -/
namespace Go.Proofs.YteofmahbimkggaaDoor
set_option linter.unusedVariables false
open Go.RowKit

theorem Kept.undrew {S : Nat → Prop} {g : Nat} {w w' : World} (h : Kept S g w.drew w') : Kept S g w w' := ⟨h.os, h.tape, h.output, h.size, h.block⟩
theorem Frm.undrew {g : Nat} {v : Value} {w w' : World} (h : Frm g v w.drew w') : Frm g v w w' := ⟨h.os, h.tape, h.output, h.size, h.block⟩
theorem wrNum_len {W M F L H : Int} {n : Bool × Int} {s : Rd} : (wrNum W M F L H n s).2.length = s.2.length + 1 := by unfold wrNum; simp
theorem wrText_len {a : ByteArray} {E : Int} {s : Rd} : (wrText a E s).2.length = s.2.length + 1 := by unfold wrText; simp
theorem wrCol_len {k : Cl} {n : Bool × Int} {s : Rd} : (wrCol k n s).2.length = s.2.length + 2 := by unfold wrCol; rw [wrText_len, wrNum_len]
/-- What a column's call needs of the memory. -/
structure ColAt (S : Nat → Prop) (g P M o : Nat) (b : Bool) (n : Int) (w : World) : Prop where
  p : w.cell? ⟨P, 0, none⟩ = some (.pointer (some ⟨g, 0, none⟩))
  sp : S P
  pg : P ≠ g
  sm : S M
  mg : M ≠ g
  m0 : w.cell? ⟨M, o, none⟩ = some (.bool b)
  m1 : w.cell? ⟨M, o + 1, none⟩ = some (.int .i64 n)
theorem ColAt.keep {S : Nat → Prop} {g P M o : Nat} {b : Bool} {n : Int} {w w' : World} (h : ColAt S g P M o b n w) (hk : Kept S g w w') : ColAt S g P M o b n w' :=
  ⟨(hk.cell h.sp h.pg).trans h.p, h.sp, h.pg, h.sm, h.mg, (hk.cell h.sm h.mg).trans h.m0, (hk.cell h.sm h.mg).trans h.m1⟩

end Go.Proofs.YteofmahbimkggaaDoor
