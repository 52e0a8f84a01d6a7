/- The law ParityOne, walked. -/
import Derived.Test.YthabojaahcfhbaaLaw07
import Derived.Test.YthabojaahcfhbaaPlain07
import Derived.Deep.RegionWith
import Derived.IntWalk
namespace Go.Proofs.Ythabojaahcfhbaa
set_option linter.unusedVariables false
open Go.RowKit

theorem Open_is (t : ByteArray) (c : Bool) (w : World) (hm : t.size ≤ 1000000) (h : (openB t).isSome = c) :
    Calls Try.prog 10 #[.string t] w fun e w' => e = .returned (.tuple #[.string ((openB t).getD ByteArray.empty), .bool c]) ∧ Below w.heap.size w w' :=
  (Open_any t w hm).mono fun e w' ⟨he, hb⟩ => ⟨by rw [he, h], hb⟩

set_option maxHeartbeats 1000000 in
theorem parityOne_core (s A : ByteArray) (n : Nat) (b : Int) (w : World) (h0 : 0 ≤ b) (h1 : b ≤ 255) (hs : s.size ≤ 500)
    (hA : Hid (sealB s = A)) (hO : Hid (openB A = some s)) (hz0 : s.size + 3 ≤ A.size) (hz1 : A.size ≤ s.size + 3) (hn : n < s.size)
    (hB : Hid ((openB (bend A n ((((A[n]'(by omega)).toNat : Int) + b) % 256))).isSome = (b == 0))) :
    Calls Try.prog 5 #[.string s, .int .i64 (n : Int), .int .u8 b] w fun e w' => e = .returned (.bool true) ∧ Below w.heap.size w w' := by
  have kc := run_conv1 (P := Try.prog) 25 9 5 Try.underlying25 Try.underlying5 Try.underlying9
  have i1 : (0 : Int) ≤ (n : Int) := Int.natCast_nonneg _
  have i2 : (n : Int) ≤ (A.size : Int) := by omega
  have i3 : (n : Int) < (A.size : Int) := by omega
  have i5 : (0 : Int) ≤ (n : Int) + 1 := by omega
  have i6 : (n : Int) + 1 ≤ (A.size : Int) := by omega
  have i4 : IntKind.i64.wrap ((n : Int) + 1) = (n : Int) + 1 := IntWalk.i64_in _ (by omega)
  have i7 : ((n : Int) + 1).toNat = n + 1 := by omega
  have kd := run_conv1d (P := Try.prog) 25 9 5 Try.underlying25 Try.underlying5 Try.underlying9
  go_enter Try.func5, Try.ntmps5
  go_wp2_with fail
  refine (knows07_any _).mono ?_
  rintro e w1 ⟨rfl, hb1⟩
  go_wp2_with fail
  refine (Seal_any _ _ (by omega)).mono ?_
  rintro e w2 ⟨rfl, hb2⟩
  rw [hA.out]
  go_wp2_with fail
  refine (Open_any _ _ (by omega)).mono ?_
  rintro e w3 ⟨rfl, hb3⟩
  rw [hO.out]
  go_wp2_with fail
  have hsz : (bend A n ((((A[n]'(by omega)).toNat : Int) + b) % 256)).size ≤ 1000000 := by
    unfold bend
    simp only [ByteArray.size_append, ByteArray.size_extract]
    have : (ByteArray.mk #[UInt8.ofNat ((((A[n]'(by omega)).toNat : Int) + b) % 256).toNat]).size = 1 := rfl
    omega
  have HC : ∀ W : World, Calls Try.prog 10 #[.string (A.extract 0 n ++ ⟨#[UInt8.ofNat ((((A[n]'(by omega)).toNat : Int) + b) % 256).toNat]⟩ ++ A.extract (n + 1) A.size)] W fun e w' =>
      e = .returned (.tuple #[.string ((openB (bend A n ((((A[n]'(by omega)).toNat : Int) + b) % 256))).getD ByteArray.empty), .bool (b == 0)]) ∧ Below W.heap.size W w' := fun W => Open_is (bend A n ((((A[n]'(by omega)).toNat : Int) + b) % 256)) (b == 0) W hsz hB
  have HH := Lib.hid HC
  clear HC hsz
  generalize (openB (bend A n ((((A[n]'(by omega)).toNat : Int) + b) % 256))).getD ByteArray.empty = R at HH
  clear hB
  go_region_with (go_at_call 10; refine (HH.out _).mono ?_; rintro e w4 ⟨rfl, hb4⟩)
  all_goals
    go_wp2_with fail
    go_ret
    refine ⟨rfl, (bthen (bthen (bthen hb1 hb2) hb3) ?_)⟩
    exact bthen (bdrew ((Below.refl _ _).alloc (Nat.le_refl _) _)) hb4

set_option maxHeartbeats 1000000 in
theorem parityOne_out (s A : ByteArray) (n : Int) (b : Int) (w : World) (hs : s.size ≤ 500)
    (hA : Hid (sealB s = A)) (hO : Hid (openB A = some s)) (hz0 : s.size + 3 ≤ A.size) (hz1 : A.size ≤ s.size + 3) (hn : n < 0 ∨ 0 ≤ n ∧ (s.size : Int) ≤ n) :
    Calls Try.prog 5 #[.string s, .int .i64 n, .int .u8 b] w fun e w' => e = .returned (.bool true) ∧ Below w.heap.size w w' := by
  rcases hn with hn | ⟨hn0, hn⟩
  all_goals
    go_enter Try.func5, Try.ntmps5
    go_wp2_with fail
    refine (knows07_any _).mono ?_
    rintro e w1 ⟨rfl, hb1⟩
    go_wp2_with fail
    refine (Seal_any _ _ (by omega)).mono ?_
    rintro e w2 ⟨rfl, hb2⟩
    rw [hA.out]
    go_wp2_with fail
    refine (Open_any _ _ (by omega)).mono ?_
    rintro e w3 ⟨rfl, hb3⟩
    rw [hO.out]
    go_wp2_with fail
    go_ret
    exact ⟨rfl, (bthen (bthen hb1 hb2) hb3)⟩

set_option maxHeartbeats 1000000 in
theorem parityOne_long (s : ByteArray) (n : Int) (b : Int) (w : World) (hs : (500 : Int) < (s.size : Int)) :
    Calls Try.prog 5 #[.string s, .int .i64 n, .int .u8 b] w fun e w' => e = .returned (.bool true) ∧ Below w.heap.size w w' := by
  go_enter Try.func5, Try.ntmps5
  go_wp2_with fail
  refine (knows07_any _).mono ?_
  rintro e w1 ⟨rfl, hb1⟩
  go_wp2_with fail
  go_ret
  exact ⟨rfl, hb1⟩

theorem parityOne_walk (s : ByteArray) (n : Int) (b : Int) (w : World) (_hs : s.size ≤ maxLen) (_hn : -9223372036854775808 ≤ n ∧ n ≤ 9223372036854775807) (hb : 0 ≤ b ∧ b ≤ 255) :
    Calls Try.prog 5 #[.string s, .int .i64 n, .int .u8 b] w fun e w' => e = .returned (.bool true) ∧ Below w.heap.size w w' := by
  by_cases hl : (500 : Int) < (s.size : Int)
  · exact parityOne_long s n b w hl
  · have hz := sealB_size s
    by_cases hn : 0 ≤ n ∧ n < (s.size : Int)
    · obtain ⟨k, rfl⟩ := Int.eq_ofNat_of_zero_le hn.1
      exact parityOne_core s (sealB s) k b w hb.1 hb.2 (by omega) rfl (open_seal s) (by omega) (by omega) (by omega) (open_bend s k (by omega) b hb.1 hb.2 (by omega))
    · exact parityOne_out s (sealB s) n b w (by omega) rfl (open_seal s) (by omega) (by omega) (by omega)

end Go.Proofs.Ythabojaahcfhbaa
