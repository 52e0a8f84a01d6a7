/- Contracts of package sentence (program): signs, field; of the reference: letter, Letters, Signs. -/
import Derived.Test.YtleebikcakndnaaSen
namespace Go.Proofs.Ytleebikcakndnaa
set_option linter.unusedVariables false
open Go.RowKit

def signsP (s : ByteArray) (n : Nat) : Bool := decide (s.size = n) && allB signP s

set_option maxHeartbeats 1000000 in
theorem signs_any (s : ByteArray) (n : Nat) (w : World) :
    Calls Try.prog 15 #[.string s, .int .i64 (n : Int)] w fun e w' => e = .returned (.bool (signsP s n)) ∧ Below w.heap.size w w' := by
  by_cases h : s.size = n
  · have hb : ((s.size : Int) == (n : Int)) = true := by rw [beq_iff_eq]; omega
    have hs : signsP s n = allB signP s := by simp [signsP, h]
    rw [hs]
    clear hs h
    go_enter Try.func15, Try.ntmps15
    go_wp2_with fail
    refine (all_sign s _).mono ?_
    rintro e w1 ⟨rfl, hb1⟩
    go_wp2_with fail
    go_ret
    exact ⟨rfl, hb1⟩
  · have hb : ((s.size : Int) == (n : Int)) = false := by rw [beq_eq_false_iff_ne]; omega
    have hs : signsP s n = false := by simp [signsP, h]
    rw [hs]
    clear hs h
    go_enter Try.func15, Try.ntmps15
    go_wp2_with fail
    go_ret
    exact ⟨rfl, Below.refl _ _⟩

set_option maxHeartbeats 1000000 in
theorem field_any (s : ByteArray) (w : World) :
    Calls Try.prog 17 #[.string s] w fun e w' => e = .returned (.bool (allB fieldP s)) ∧ Below w.heap.size w w' := by
  go_enter Try.func17, Try.ntmps17
  go_wp2_with fail
  refine (all_field s _).mono ?_
  rintro e w1 ⟨rfl, hb1⟩
  go_wp2_with fail
  go_ret
  exact ⟨rfl, hb1⟩

set_option maxHeartbeats 1000000 in
theorem r22letter_any (c : Int) (w : World) :
    Calls Try.prog 41 #[.int .u8 c] w fun e w' => e = .returned (.bool (letterP c)) ∧ w = w' := by
  cases h : letterP c with
  | true =>
    have h' : 32 ≤ c ∧ c ≤ 126 ∧ c ≠ 33 ∧ c ≠ 36 ∧ c ≠ 42 ∧ c ≠ 92 ∧ c ≠ 94 ∧ c ≠ 126 := by simpa [letterP] using h
    clear h
    obtain ⟨h0, h1, h2, h3, h4, h5, h6, h7⟩ := h'
    have k2 : (c != 33) = true := by rw [bne_iff_ne]; exact h2
    have k3 : (c != 36) = true := by rw [bne_iff_ne]; exact h3
    have k4 : (c != 42) = true := by rw [bne_iff_ne]; exact h4
    have k5 : (c != 92) = true := by rw [bne_iff_ne]; exact h5
    have k6 : (c != 94) = true := by rw [bne_iff_ne]; exact h6
    have k7 : (c != 126) = true := by rw [bne_iff_ne]; exact h7
    go_enter Try.func41, Try.ntmps41
    go_wp2
    go_ret
    exact ⟨rfl, rfl⟩
  | false =>
    have h' : c < 32 ∨ 126 < c ∨ c = 33 ∨ c = 36 ∨ c = 42 ∨ c = 92 ∨ c = 94 ∨ c = 126 := by
      have : ¬ (32 ≤ c ∧ c ≤ 126 ∧ c ≠ 33 ∧ c ≠ 36 ∧ c ≠ 42 ∧ c ≠ 92 ∧ c ≠ 94 ∧ c ≠ 126) := by simpa [letterP] using h
      omega
    clear h
    rcases h' with h | h | rfl | rfl | rfl | rfl | rfl | rfl
    · have k : decide (32 ≤ c) = false := by simp; omega
      go_enter Try.func41, Try.ntmps41
      go_wp2
      go_ret
      exact ⟨rfl, rfl⟩
    · have k : decide (c ≤ 126) = false := by simp; omega
      have k0 : 32 ≤ c := by omega
      go_enter Try.func41, Try.ntmps41
      go_wp2
      go_ret
      exact ⟨rfl, rfl⟩
    all_goals
      go_enter Try.func41, Try.ntmps41
      go_wp2
      go_ret
      exact ⟨rfl, rfl⟩

end Go.Proofs.Ytleebikcakndnaa
