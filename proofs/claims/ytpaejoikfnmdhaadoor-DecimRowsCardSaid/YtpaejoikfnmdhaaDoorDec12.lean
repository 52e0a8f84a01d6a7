/- Layer 23: the reference's parse. -/
import Derived.Test.YtpaejoikfnmdhaaDoorDec11
namespace Go.Proofs.YtpaejoikfnmdhaaDoor
set_option linter.unusedVariables false
open Go.RowKit

theorem r23count0 (s : ByteArray) (w : World) (hs : s.size ≤ 1000000) :
    Calls Tryd.prog 62 #[.string s, .int .i64 0] w fun e w' => e = .returned (.int .i64 ((cntD s.data.toList : Nat) : Int)) ∧ w = w' := by
  have h := r23count_any s 0 w hs (Nat.zero_le _)
  rw [List.drop_zero] at h
  exact h

set_option maxHeartbeats 1000000 in
theorem r23parse_out (s : ByteArray) (l m f : Nat) (w : World) (hs : s.size ≤ 1000000) (h : cntD s.data.toList < l ∨ l ≤ cntD s.data.toList ∧ m < cntD s.data.toList) :
    Calls Tryd.prog 49 #[.string s, .int .i64 (l : Int), .int .i64 (m : Int), .int .i64 (f : Int)] w fun e w' => e = .returned (.tuple #[.int .i64 0, .bool false]) ∧ w = w' := by
  have HC := fun W => Lib.hid (r23count0 s W hs)
  have hle := cntD_le s.data.toList
  have hz : s.data.toList.length = s.size := by simp
  rw [hz] at hle
  clear hz
  generalize cntD s.data.toList = a at *
  rcases h with h | ⟨h, h2⟩
  all_goals
    go_enter Tryd.func49, Tryd.ntmps49
    go_wp2_with fail
    refine (HC _).out.mono ?_
    rintro e w' ⟨rfl, rfl⟩
    go_wp2_with fail
    go_ret2
    exact ⟨rfl, rfl⟩

set_option maxHeartbeats 1000000 in
theorem r23parse_whole (s : ByteArray) (l m f : Nat) (w : World) (hs : s.size ≤ 1000000) (h1 : l ≤ cntD s.data.toList) (h2 : cntD s.data.toList ≤ m) (hmf : m + f ≤ 18) (hw : cntD s.data.toList = s.data.toList.length) :
    Calls Tryd.prog 49 #[.string s, .int .i64 (l : Int), .int .i64 (m : Int), .int .i64 (f : Int)] w fun e w' => e = .returned (.tuple #[.int .i64 ((valD s.data.toList : Int) * tenI f), .bool true]) ∧ w = w' := by
  have HC := fun W => Lib.hid (r23count0 s W hs)
  have hz : s.data.toList.length = s.size := by simp
  have hall := cntD_take s.data.toList
  rw [hw, List.take_length] at hall
  have HV := fun W => Lib.hid (r23value_any (s.extract 0 s.size) f W (by rw [ByteArray.size_extract]; omega) (by rw [Lib.extract_upto]; show ∀ c ∈ (s.data.toList.take s.size), _; rw [← hz, List.take_length]; exact hall))
  have hx : s.extract 0 s.size = s := by
    rw [Lib.extract_upto, ← hz, List.take_length]
  have HX := Lib.hid hx
  rw [hw, hz] at HC h1 h2
  rw [hx] at HV
  generalize (valD s.data.toList : Int) * tenI f = V at *
  clear hw hall hz hx
  go_enter Tryd.func49, Tryd.ntmps49
  go_wp2_with fail
  refine (HC _).out.mono ?_
  rintro e w' ⟨rfl, rfl⟩
  go_wp2_with fail
  refine (HV _).out.mono ?_
  rintro e w' ⟨rfl, rfl⟩
  go_wp2_with fail
  go_ret2
  exact ⟨rfl, rfl⟩

end Go.Proofs.YtpaejoikfnmdhaaDoor
