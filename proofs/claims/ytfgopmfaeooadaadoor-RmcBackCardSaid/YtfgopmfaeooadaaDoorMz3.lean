/- Layer 24: times and dates, the reference's checks and what it puts. -/
import Derived.Test.YtfgopmfaeooadaaDoorMz2
namespace Go.Proofs.YtfgopmfaeooadaaDoor
set_option linter.unusedVariables false
open Go.RowKit

theorem digL_two {n : Nat} (h : n ≤ 99) : digL n 2 = twoL (n : Int) := by
  unfold digL twoL
  rw [digF_step _ _ _ (by omega), digF_step _ _ _ (by omega), show n / 10 / 10 = 0 by omega, show 2 - 1 - 1 = 0 from rfl, digF_stop]
  have e1 : (48 + (n : Int) / 10).toNat = 48 + n / 10 % 10 := by omega
  have e2 : (48 + (n : Int) % 10).toNat = 48 + n % 10 := by omega
  rw [e1, e2]
  rfl
theorem digL_dig1 {n : Nat} (h : n ≤ 9) : digL n 1 = [UInt8.ofNat (48 + (n : Int)).toNat] := by
  unfold digL
  rw [digF_step _ _ _ (by omega), show n / 10 = 0 by omega, show 1 - 1 = 0 from rfl, digF_stop]
  have e2 : (48 + (n : Int)).toNat = 48 + n % 10 := by omega
  rw [e2]
  rfl
set_option maxHeartbeats 4000000 in
theorem r24May_any (b : Bool) (h m s c : Int) (w : World) : Calls Tryd.prog 98 #[clkV b h m s c] w fun e w' => e = .returned (.bool (clkB (b, h, m, s, c))) ∧ Below w.heap.size w w' := by
  cases b with
  | false =>
    rcases (by omega : (h = 0 ∧ m = 0 ∧ s = 0 ∧ c = 0) ∨ h ≠ 0 ∨ (h = 0 ∧ m ≠ 0) ∨ (h = 0 ∧ m = 0 ∧ s ≠ 0) ∨ (h = 0 ∧ m = 0 ∧ s = 0 ∧ c ≠ 0)) with ⟨rfl, rfl, rfl, rfl⟩ | q | ⟨rfl, q⟩ | ⟨rfl, rfl, q⟩ | ⟨rfl, rfl, rfl, q⟩
    · rw [show clkB (false, 0, 0, 0, 0) = true from rfl]
      go_enter Tryd.func98, Tryd.ntmps98
      go_wp2
      go_ret
      exact ⟨rfl, below_new _ _⟩
    all_goals
      rw [show clkB (false, _, _, _, _) = false from decide_eq_false (by simp only; omega)]
      go_enter Tryd.func98, Tryd.ntmps98
      go_wp2
      go_ret
      exact ⟨rfl, below_new _ _⟩
  | true =>
    by_cases q : 0 ≤ h ∧ h ≤ 23 ∧ 0 ≤ m ∧ m ≤ 59 ∧ 0 ≤ s ∧ s ≤ 59 ∧ 0 ≤ c ∧ c ≤ 99
    · rw [show clkB (true, h, m, s, c) = true from decide_eq_true q]
      obtain ⟨q1, q2, q3, q4, q5, q6, q7, q8⟩ := q
      go_enter Tryd.func98, Tryd.ntmps98
      go_wp2
      go_ret
      exact ⟨by rfl, below_new _ _⟩
    · rw [show clkB (true, h, m, s, c) = false from decide_eq_false q]
      rcases (by omega : h < 0 ∨ (0 ≤ h ∧ 23 < h) ∨ (0 ≤ h ∧ h ≤ 23 ∧ m < 0) ∨ (0 ≤ h ∧ h ≤ 23 ∧ 0 ≤ m ∧ 59 < m) ∨ (0 ≤ h ∧ h ≤ 23 ∧ 0 ≤ m ∧ m ≤ 59 ∧ s < 0) ∨ (0 ≤ h ∧ h ≤ 23 ∧ 0 ≤ m ∧ m ≤ 59 ∧ 0 ≤ s ∧ 59 < s) ∨ (0 ≤ h ∧ h ≤ 23 ∧ 0 ≤ m ∧ m ≤ 59 ∧ 0 ≤ s ∧ s ≤ 59 ∧ c < 0) ∨ (0 ≤ h ∧ h ≤ 23 ∧ 0 ≤ m ∧ m ≤ 59 ∧ 0 ≤ s ∧ s ≤ 59 ∧ 0 ≤ c ∧ 99 < c)) with q | ⟨q1, q⟩ | ⟨q1, q2, q⟩ | ⟨q1, q2, q3, q⟩ | ⟨q1, q2, q3, q4, q⟩ | ⟨q1, q2, q3, q4, q5, q⟩ | ⟨q1, q2, q3, q4, q5, q6, q⟩ | ⟨q1, q2, q3, q4, q5, q6, q7, q⟩
      all_goals
        rename_i qq
        clear qq
        go_enter Tryd.func98, Tryd.ntmps98
        go_wp2
        go_ret
        first | exact ⟨rfl, below_new _ _⟩ | exact ⟨ret_bool (decide_eq_false (by omega)), below_new _ _⟩
end Go.Proofs.YtfgopmfaeooadaaDoor
