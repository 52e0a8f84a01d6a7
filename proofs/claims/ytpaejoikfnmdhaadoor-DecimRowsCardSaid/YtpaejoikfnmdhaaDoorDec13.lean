/- Layer 23: the reference's parse, with a byte behind the first digits. -/
import Derived.Test.YtpaejoikfnmdhaaDoorDec12
namespace Go.Proofs.YtpaejoikfnmdhaaDoor
set_option linter.unusedVariables false
open Go.RowKit

set_option maxHeartbeats 2000000 in
theorem r23parse_bad (s : ByteArray) (a b l m f : Nat) (V : Int) (w : World) (hs : s.size ≤ 1000000) (hlt : a < s.size) (h1 : l ≤ a) (h2 : a ≤ m) (hmf : m + f ≤ 18) (hb : b ≤ s.size)
    (HC : ∀ W, Hid (Calls Tryd.prog 62 #[.string s, .int .i64 0] W fun e w' => e = .returned (.int .i64 (a : Int)) ∧ W = w'))
    (HV : ∀ W, Hid (Calls Tryd.prog 63 #[.string (s.extract 0 a), .int .i64 (f : Int)] W fun e w' => e = .returned (.int .i64 V) ∧ W = w'))
    (HD : ∀ W, Hid (Calls Tryd.prog 62 #[.string s, .int .i64 ((a : Int) + 1)] W fun e w' => e = .returned (.int .i64 (b : Int)) ∧ W = w'))
    (h : (((s[a]'hlt).toNat : Int) != 46) = true ∨ (((s[a]'hlt).toNat : Int) != 46) = false ∧ (b : Int) < 1 ∨ (((s[a]'hlt).toNat : Int) != 46) = false ∧ (1 : Int) ≤ (b : Int) ∧ f < b ∨ (((s[a]'hlt).toNat : Int) != 46) = false ∧ (1 : Int) ≤ (b : Int) ∧ b ≤ f ∧ ((a : Int) + 1 + (b : Int) != (s.size : Int)) = true) :
    Calls Tryd.prog 49 #[.string s, .int .i64 (l : Int), .int .i64 (m : Int), .int .i64 (f : Int)] w fun e w' => e = .returned (.tuple #[.int .i64 0, .bool false]) ∧ w = w' := by
  have i1 : ((a : Int) == (s.size : Int)) = false := by rw [beq_eq_false_iff_ne]; omega
  have i2 : (0 : Int) ≤ (a : Int) := Int.natCast_nonneg _
  have i3 : (a : Int) < (s.size : Int) := by omega
  have i4 : (a : Int) ≤ (s.size : Int) := by omega
  rcases h with h | ⟨h, h'⟩ | ⟨h, h', h''⟩ | ⟨h, h', h'', h'''⟩
  all_goals
    go_enter Tryd.func49, Tryd.ntmps49
    go_wp2_with fail
    refine (HC _).out.mono ?_
    rintro e w' ⟨rfl, rfl⟩
    go_wp2_with fail
    refine (HV _).out.mono ?_
    rintro e w' ⟨rfl, rfl⟩
    go_wp2_with fail
    refine (HD _).out.mono ?_
    rintro e w' ⟨rfl, rfl⟩
    go_wp2_with fail
    go_ret2
    exact ⟨rfl, rfl⟩

end Go.Proofs.YtpaejoikfnmdhaaDoor
