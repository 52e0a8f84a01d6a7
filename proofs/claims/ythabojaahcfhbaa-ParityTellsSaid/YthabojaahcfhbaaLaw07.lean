/- The laws of layer 7, walked: knows, ParityTells, ParityHex, ParityOne return true. -/
import Derived.Test.YthabojaahcfhbaaRef07b
import Derived.Deep.RegionHeld3
namespace Go.Proofs.Ythabojaahcfhbaa
set_option linter.unusedVariables false
open Go.RowKit

theorem sum_gpgll : sumI ⟨#[71, 80, 71, 76, 76]⟩ = 80 := by decide +kernel
theorem seal_a : sealB ⟨#[65]⟩ = ⟨#[65, 42, 52, 49]⟩ := by decide +kernel

set_option maxHeartbeats 400000 in
theorem knows07_any (w : World) : Calls Try.prog 8 #[] w fun e w' => e = .returned (.bool true) ∧ Below w.heap.size w w' := by
  go_enter Try.func8, Try.ntmps8
  go_wp2_with fail
  refine (Of_sum _ _ (by decide)).mono ?_
  rintro e w' ⟨rfl, rfl⟩
  rw [sum_gpgll]
  go_wp2_with fail
  refine (Seal_any _ _ (by decide)).mono ?_
  rintro e w1 ⟨rfl, hb⟩
  rw [seal_a]
  go_wp2_with fail
  go_ret
  exact ⟨rfl, hb⟩

set_option maxHeartbeats 1000000 in
theorem parityTells_walk (s : ByteArray) (b : Int) (w : World) (hs : s.size ≤ maxLen) (hbd : 0 ≤ b ∧ b ≤ 255) :
    Calls Try.prog 4 #[.string s, .int .u8 b] w fun e w' => e = .returned (.bool true) ∧ Below w.heap.size w w' := by
  obtain ⟨h0, h1⟩ := hbd
  unfold maxLen at hs
  by_cases hl : (500 : Int) < (s.size : Int)
  · go_enter Try.func4, Try.ntmps4
    go_wp2_with fail
    refine (knows07_any _).mono ?_
    rintro e w1 ⟨rfl, hb⟩
    go_wp2_with fail
    go_ret
    exact ⟨rfl, hb⟩
  · go_enter Try.func4, Try.ntmps4
    go_wp2_with fail
    refine (knows07_any _).mono ?_
    rintro e w1 ⟨rfl, hb1⟩
    go_wp2_with fail
    refine (Unhex_any _ _).mono ?_
    rintro e w2 ⟨rfl, hb2⟩
    go_wp2_with fail
    refine (r07Unhex_any _ _).mono ?_
    rintro e w' ⟨rfl, rfl⟩
    go_wp2_with fail
    refine (Open_any _ _ (by omega)).mono ?_
    rintro e w3 ⟨rfl, hb3⟩
    go_wp2_with fail
    refine (r07Open_any _ _ (by omega)).mono ?_
    rintro e w4 ⟨rfl, hb4⟩
    go_wp2_with fail
    refine (Of_sum _ _ (by unfold maxLen; omega)).mono ?_
    rintro e w' ⟨rfl, rfl⟩
    go_wp2_with fail
    refine (r07Of_any _ _ (by omega)).mono ?_
    rintro e w' ⟨rfl, rfl⟩
    go_wp2_with fail
    refine (Hex_any _ _ h0 h1).mono ?_
    rintro e w5 ⟨rfl, hb5⟩
    go_wp2_with fail
    refine (r07Hex_any _ _ h0 h1).mono ?_
    rintro e w6 ⟨rfl, hb6⟩
    go_wp2_with fail
    refine (Seal_any _ _ (by omega)).mono ?_
    rintro e w7 ⟨rfl, hb7⟩
    go_wp2_with fail
    refine (r07Seal_any _ _ (by omega)).mono ?_
    rintro e w8 ⟨rfl, hb8⟩
    go_wp2_with fail
    go_ret
    exact ⟨rfl, (bthen (bthen (bthen (bthen (bthen (bthen (bthen hb1 hb2) hb3) hb4) hb5) hb6) hb7) hb8)⟩

end Go.Proofs.Ythabojaahcfhbaa
