/- Contracts of the library's IndexByte and Cut at a comma (one byte). -/
import Derived.Test.YtleebikcakndnaaProg
import Derived.Test.YtleebikcakndnaaBas
import Derived.Lib.Strings
import Derived.Lib.IndexBytes
import Derived.Lib.Bytealg
import Derived.Lib.IndexEntry
import Derived.Laws.Externs
import Derived.BigQuiet
import Derived.Deep.QuietTactic
namespace Go.Proofs.Ytleebikcakndnaa
set_option linter.unusedVariables false
open Go.RowKit

theorem liteIndexByte_any (s : ByteArray) (c : Int) (w : World) :
    Calls Try.prog 50 #[.string s, .int .u8 c] w fun e w' => e = .returned (.int .i64 (Lib.indexByte s.data.toList c.toNat.toUInt8)) ∧ w = w' := by
  go_enter Try.func50, Try.ntmps50
  go_wp2
  rw [run_callFunc_extern Try.func53 (by kernel_rfl) (by kernel_rfl) (by kernel_rfl) (e := Extern.BytealgIndexByte.indexByte) (by kernel_rfl), Lib.run_indexByteString]
  simp only [Result.andThen]
  rw [Oper.upon_value]
  go_wp2
  go_ret
  exact ⟨rfl, rfl⟩

theorem IndexByte_any (s : ByteArray) (c : Int) (w : World) :
    Calls Try.prog 43 #[.string s, .int .u8 c] w fun e w' => e = .returned (.int .i64 (Lib.indexByte s.data.toList c.toNat.toUInt8)) ∧ w = w' := by
  go_enter Try.func43, Try.ntmps43
  go_wp2_with fail
  refine (liteIndexByte_any _ _ _).mono ?_
  rintro e w' ⟨rfl, rfl⟩
  go_wp2
  go_ret
  exact ⟨rfl, rfl⟩

theorem liteIndex_one (s : ByteArray) (c : UInt8) (w : World) :
    Calls Try.prog 54 #[.string s, .string ⟨#[c]⟩] w fun e w' => e = .returned (.int .i64 (Lib.indexByte s.data.toList c)) ∧ w = w' := by
  go_enter Try.func54, Try.ntmps54
  go_wp2_with (go_at_call 50; refine (liteIndexByte_any _ _ _).mono ?_; rintro e w' ⟨rfl, rfl⟩)
  · have h : ([c] == s.toList) = true := by assumption
    go_ret
    refine ⟨?_, rfl⟩
    have e : s.data.toList = [c] := by rw [← Lib.toList_data]; exact (beq_iff_eq.1 h).symm
    rw [e]
    simp [Lib.indexByte]
  · go_ret
    exact ⟨rfl, rfl⟩

theorem indexByte_le (l : List UInt8) (c : UInt8) : Lib.indexByte l c < l.length := by
  induction l with
  | nil => simp [Lib.indexByte]
  | cons b l ih =>
    unfold Lib.indexByte
    split
    · simp <;> omega
    · split
      · simp <;> omega
      · simp <;> omega

def cutI (s : ByteArray) (c : UInt8) : Int := Lib.indexByte s.data.toList c

set_option maxHeartbeats 1000000 in
theorem liteCut_no (s : ByteArray) (c : UInt8) (w : World) (h : Hid (cutI s c < 0)) :
    Calls Try.prog 52 #[.string s, .string ⟨#[c]⟩] w fun e w' => e = .returned (.tuple #[.string s, .string ByteArray.empty, .bool false]) ∧ Below w.heap.size w w' := by
  obtain ⟨I, hI⟩ : ∃ I, I = Lib.indexByte s.data.toList c := ⟨_, rfl⟩
  have hn : I < 0 := by rw [hI]; exact h.out
  have HI := Lib.hid hI
  clear hI
  go_enter Try.func52, Try.ntmps52
  go_wp2_with fail
  refine (liteIndex_one _ _ _).mono ?_
  rintro e w' ⟨rfl, rfl⟩
  rw [← HI.out]
  go_wp2_with fail
  go_ret3
  exact ⟨rfl, Below.refl _ _⟩

set_option maxHeartbeats 1000000 in
theorem liteCut_yes (s : ByteArray) (c : UInt8) (i : Nat) (w : World) (hs : s.size ≤ 1000000) (hi : i < s.size) (h : Hid (cutI s c = (i : Int))) :
    Calls Try.prog 52 #[.string s, .string ⟨#[c]⟩] w fun e w' => e = .returned (.tuple #[.string (s.extract 0 i), .string (s.extract (i + 1) s.size), .bool true]) ∧ Below w.heap.size w w' := by
  have i1 : (0 : Int) ≤ (i : Int) := Int.natCast_nonneg _
  have i2 : (i : Int) ≤ (s.size : Int) := by omega
  have i5 : (0 : Int) ≤ (i : Int) + 1 := by omega
  have i6 : (i : Int) + 1 ≤ (s.size : Int) := by omega
  have i4 : IntKind.i64.wrap ((i : Int) + 1) = (i : Int) + 1 := IntWalk.i64_in _ (by omega)
  have i7 : ((i : Int) + 1).toNat = i + 1 := by omega
  go_enter Try.func52, Try.ntmps52
  go_wp2_with fail
  refine (liteIndex_one _ _ _).mono ?_
  rintro e w' ⟨rfl, rfl⟩
  rw [show Lib.indexByte s.data.toList c = (i : Int) from h.out]
  go_wp2_with fail
  go_quiet (fail)
  go_wp2_with fail
  go_ret3
  exact ⟨rfl, bdrewN (Below.refl _ _) _⟩

def CutPost (s : ByteArray) (c : UInt8) (w : World) (e : Ending) (w' : World) : Prop :=
  (cutI s c < 0 → e = .returned (.tuple #[.string s, .string ByteArray.empty, .bool false])) ∧
  (∀ i : Nat, cutI s c = (i : Int) → e = .returned (.tuple #[.string (s.extract 0 i), .string (s.extract (i + 1) s.size), .bool true])) ∧ Below w.heap.size w w'

theorem Cut_no (s : ByteArray) (c : UInt8) (w : World) (h : Hid (cutI s c < 0)) :
    Calls Try.prog 45 #[.string s, .string ⟨#[c]⟩] w fun e w' => e = .returned (.tuple #[.string s, .string ByteArray.empty, .bool false]) ∧ Below w.heap.size w w' := by
  go_enter Try.func45, Try.ntmps45
  go_wp2_with fail
  refine (liteCut_no _ _ _ h).mono ?_
  rintro e w1 ⟨rfl, hb⟩
  go_wp2_with fail
  go_ret3
  exact ⟨rfl, hb⟩
theorem Cut_yes (s : ByteArray) (c : UInt8) (i : Nat) (w : World) (hs : s.size ≤ 1000000) (hi : i < s.size) (h : Hid (cutI s c = (i : Int))) :
    Calls Try.prog 45 #[.string s, .string ⟨#[c]⟩] w fun e w' => e = .returned (.tuple #[.string (s.extract 0 i), .string (s.extract (i + 1) s.size), .bool true]) ∧ Below w.heap.size w w' := by
  go_enter Try.func45, Try.ntmps45
  go_wp2_with fail
  refine (liteCut_yes _ _ i _ hs hi h).mono ?_
  rintro e w1 ⟨rfl, hb⟩
  go_wp2_with fail
  go_ret3
  exact ⟨rfl, hb⟩

end Go.Proofs.Ytleebikcakndnaa
