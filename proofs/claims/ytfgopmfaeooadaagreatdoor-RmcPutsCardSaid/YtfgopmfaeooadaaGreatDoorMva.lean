/- Layer 28: columns, places, letters. -/
import Derived.Test.YtfgopmfaeooadaaGreatDoorMh
import Derived.Deep.RegionWith
import Derived.Deep.DeepCutAuto
import Derived.Deep.CutBlock
namespace Go.Proofs.YtfgopmfaeooadaaGreatDoor
set_option linter.unusedVariables false
open Go.RowKit

/-- A message as a value; its cells. -/
abbrev vtgC (b0 : Bool) (n0 : Int) (b1 : Bool) (n1 : Int) (b2 : Bool) (n2 : Int) (b3 : Bool) (n3 : Int) : Array Value := #[.bool b0, .int .i64 n0, .bool b1, .int .i64 n1, .bool b2, .int .i64 n2, .bool b3, .int .i64 n3]
abbrev vtgV (b0 : Bool) (n0 : Int) (b1 : Bool) (n1 : Int) (b2 : Bool) (n2 : Int) (b3 : Bool) (n3 : Int) : Value := .agg (vtgC b0 n0 b1 n1 b2 n2 b3 n3)
/-- A column with its letter. -/
abbrev clC (W M F L H : Int) (c : ByteArray) : Array Value := #[.int .i64 W, .int .i64 M, .int .i64 F, .int .i64 L, .int .i64 H, .string c]
abbrev clV (W M F L H : Int) (c : ByteArray) : Value := .agg (clC W M F L H c)
abbrev clCells : Array Value := #[.int .i64 1, .int .i64 3, .int .i64 2, .int .i64 0, .int .i64 36000, .string ⟨#[84]⟩, .int .i64 1, .int .i64 3, .int .i64 2, .int .i64 0, .int .i64 36000, .string ⟨#[77]⟩, .int .i64 1, .int .i64 4, .int .i64 2, .int .i64 0, .int .i64 999999, .string ⟨#[78]⟩, .int .i64 1, .int .i64 4, .int .i64 2, .int .i64 0, .int .i64 999999, .string ⟨#[75]⟩]
theorem isEmpty_text (a : ByteArray) : a.toList.isEmpty = decide (a = ByteArray.empty) := by
  rw [← beq_text]
  have : ByteArray.empty.toList = [] := by rw [ByteArray.toList_eq]; rfl
  rw [this]
  cases a.toList <;> rfl
def ColsPost (w : World) (r : Ending) (w' : World) : Prop := ∃ h, r = .returned (.slice (some ⟨h, 0, none⟩) 4 4) ∧ (∀ o, w'.cell? ⟨h, o, none⟩ = clCells[o]?) ∧ w.heap.size ≤ h ∧ h < w'.heap.size ∧ Below w.heap.size w w'
abbrev ptrC (M : Nat) : Array Value := #[.pointer (some ⟨M, 0, none⟩), .pointer (some ⟨M, 2, none⟩), .pointer (some ⟨M, 4, none⟩), .pointer (some ⟨M, 6, none⟩)]
end Go.Proofs.YtfgopmfaeooadaaGreatDoor

/- Layer 28: Put. -/
namespace Go.Proofs.YtfgopmfaeooadaaGreatDoor
set_option linter.unusedVariables false
open Go.RowKit

theorem Kept.undrew {S : Nat → Prop} {g : Nat} {w w' : World} (h : Kept S g w.drew w') : Kept S g w w' := ⟨h.os, h.tape, h.output, h.size, h.block⟩
theorem Frm.undrew {g : Nat} {v : Value} {w w' : World} (h : Frm g v w.drew w') : Frm g v w w' := ⟨h.os, h.tape, h.output, h.size, h.block⟩
theorem wrNum_len {W M F L H : Int} {n : Bool × Int} {s : Rd} : (wrNum W M F L H n s).2.length = s.2.length + 1 := by unfold wrNum; simp
theorem wrText_len {a : ByteArray} {E : Int} {s : Rd} : (wrText a E s).2.length = s.2.length + 1 := by unfold wrText; simp
theorem wrCol_len {k : Cl} {n : Bool × Int} {s : Rd} : (wrCol k n s).2.length = s.2.length + 2 := by unfold wrCol; rw [wrText_len, wrNum_len]
/-- What a column's call needs of the memory. -/
structure ColAt (S : Nat → Prop) (g P M o : Nat) (b : Bool) (n : Int) (w : World) : Prop where
  p : w.cell? ⟨P, 0, none⟩ = some (.pointer (some ⟨g, 0, none⟩))
  sp : S P
  pg : P ≠ g
  sm : S M
  mg : M ≠ g
  m0 : w.cell? ⟨M, o, none⟩ = some (.bool b)
  m1 : w.cell? ⟨M, o + 1, none⟩ = some (.int .i64 n)
theorem ColAt.keep {S : Nat → Prop} {g P M o : Nat} {b : Bool} {n : Int} {w w' : World} (h : ColAt S g P M o b n w) (hk : Kept S g w w') : ColAt S g P M o b n w' :=
  ⟨(hk.cell h.sp h.pg).trans h.p, h.sp, h.pg, h.sm, h.mg, (hk.cell h.sm h.mg).trans h.m0, (hk.cell h.sm h.mg).trans h.m1⟩

end Go.Proofs.YtfgopmfaeooadaaGreatDoor

/- Layer 28: two lists, place by place. -/
namespace Go.Proofs.YtfgopmfaeooadaaGreatDoor
set_option linter.unusedVariables false
open Go.RowKit

end Go.Proofs.YtfgopmfaeooadaaGreatDoor

/- Layer 28: Put, and the reference's. Printed by genvtg4.py. -/
namespace Go.Proofs.YtfgopmfaeooadaaGreatDoor
set_option linter.unusedVariables false
open Go.RowKit

theorem TextsPost.after {fs : List ByteArray} {w w1 : World} {v : Value} {w' : World} (hb : Below w.heap.size w w1) (h : TextsPost fs w1 v w') : TextsPost fs w v w' := by
  obtain ⟨A, c, h1, h2, h3, h4, h5⟩ := h
  exact ⟨A, c, h1, h2, h3, h4.less hb.size, bthen hb h5⟩
/-- What a Put hands back. -/
def PutPost (x : List ByteArray × Int) (w : World) (r : Ending) (w' : World) : Prop := ∃ v, r = .returned (.tuple #[v, .int .i64 x.2]) ∧ TextsPost x.1 w v w'
theorem DonePost.put {s : Rd} {w w1 w' : World} {r : Ending} (hb : Below w.heap.size w w1) (h : DonePost s.1 s.2 w1 r w') : PutPost (wrDone s) w r w' := by
  obtain ⟨v, h1, h2⟩ := h
  exact ⟨v, h1, h2.after hb⟩
theorem vtg_chain {b0 b1 b2 b3 : Bool} {n0 n1 n2 n3 : Int} {s1 s2 s3 s4 : Rd} (h0 : Hid (wrCol ⟨1, 3, 2, 0, 36000, ⟨#[84]⟩⟩ (b0, n0) (0, []) = s1)) (h1 : Hid (wrCol ⟨1, 3, 2, 0, 36000, ⟨#[77]⟩⟩ (b1, n1) s1 = s2)) (h2 : Hid (wrCol ⟨1, 4, 2, 0, 999999, ⟨#[78]⟩⟩ (b2, n2) s2 = s3)) (h3 : Hid (wrCol ⟨1, 4, 2, 0, 999999, ⟨#[75]⟩⟩ (b3, n3) s3 = s4)) :
    putVtg [(b0, n0), (b1, n1), (b2, n2), (b3, n3)] = wrDone s4 ∧ s1.2.length = 2 ∧ s2.2.length = 4 ∧ s3.2.length = 6 ∧ s4.2.length = 8 := by
  have h0 := h0.out
  have h1 := h1.out
  have h2 := h2.out
  have h3 := h3.out
  refine ⟨?_, ?_, ?_, ?_, ?_⟩
  · show wrDone (wrCol _ _ (wrCol _ _ (wrCol _ _ (wrCol _ _ _)))) = _
    rw [h0, h1, h2, h3]
  · rw [← h0, wrCol_len]; rfl
  · rw [← h1, wrCol_len, ← h0, wrCol_len]; rfl
  · rw [← h2, wrCol_len, ← h1, wrCol_len, ← h0, wrCol_len]; rfl
  · rw [← h3, wrCol_len, ← h2, wrCol_len, ← h1, wrCol_len, ← h0, wrCol_len]; rfl

end Go.Proofs.YtfgopmfaeooadaaGreatDoor
