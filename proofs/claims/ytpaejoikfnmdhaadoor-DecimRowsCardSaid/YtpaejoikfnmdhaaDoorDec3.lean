/- Layer 23: fits; digits. -/
import Derived.Test.YtpaejoikfnmdhaaDoorDec2
namespace Go.Proofs.YtpaejoikfnmdhaaDoor
set_option linter.unusedVariables false
open Go.RowKit

/-- A number as a value. -/
abbrev numV (b : Bool) (n : Int) : Value := .agg #[.bool b, .int .i64 n]
/-- May a number be? -/
def fitsB (b : Bool) (n lo hi : Int) : Bool := if b then decide (lo ≤ n ∧ n ≤ hi) else decide (n = 0)

set_option maxHeartbeats 2000000 in
theorem fits_any (b : Bool) (n lo hi : Int) (w : World) : Calls Tryd.prog 43 #[numV b n, .int .i64 lo, .int .i64 hi] w fun e w' => e = .returned (.bool (fitsB b n lo hi)) ∧ Below w.heap.size w w' := by
  cases b with
  | false =>
    by_cases h : n = 0
    · subst h
      have e : fitsB false 0 lo hi = true := by unfold fitsB; simp
      rw [e]
      clear e
      go_enter Tryd.func43, Tryd.ntmps43
      go_wp2
      go_ret
      exact ⟨rfl, below_new _ _⟩
    · have e : fitsB false n lo hi = false := by unfold fitsB; simp [h]
      rw [e]
      clear e
      go_enter Tryd.func43, Tryd.ntmps43
      go_wp2
      go_ret
      exact ⟨rfl, below_new _ _⟩
  | true =>
    by_cases h : lo ≤ n
    · have e : fitsB true n lo hi = decide (n ≤ hi) := by unfold fitsB; rw [if_pos rfl]; simp [h]
      rw [e]
      clear e
      go_enter Tryd.func43, Tryd.ntmps43
      go_wp2
      go_ret
      exact ⟨rfl, below_new _ _⟩
    · have e : fitsB true n lo hi = false := by unfold fitsB; rw [if_pos rfl]; simp [h]
      rw [e]
      clear e
      go_enter Tryd.func43, Tryd.ntmps43
      go_wp2
      go_ret
      exact ⟨rfl, below_new _ _⟩

end Go.Proofs.YtpaejoikfnmdhaaDoor
