/- Layer 33: lines are sorted. -/
import Derived.Test.YtloebedipfppeaaGap3
import Derived.Shelf.SlSortCmp.WholeK
import Derived.Shelf.SlSortCmp.NoneTotal
import Derived.Shelf.SlGeneric
import Derived.Ground.SlsfProg
namespace Go.Proofs.Ytloebedipfppeaa
set_option linter.unusedVariables false
open Go.RowKit Go.Shelf Go.Sort

/-- Does a line come ahead of a sender? -/
def aheadB (x : Ln) (s c : Int) : Bool := decide (x.1 < s) || (decide (x.1 = s) && decide (x.2.1 < c))
def cfL (x y : Ln) : Int := if Lib.compareInt x.1 y.1 = 0 then Lib.compareInt x.2.1 y.2.1 else Lib.compareInt x.1 y.1
theorem cfL_lt (x y : Ln) : ltOf cfL x y = aheadB x y.1 y.2.1 := by
  unfold ltOf cfL Lib.compareInt aheadB
  by_cases h1 : x.1 < y.1
  · simp [h1]
  · by_cases h2 : y.1 < x.1
    · have h3 : x.1 ≠ y.1 := by omega
      simp [h1, h2, h3]
    · have h3 : x.1 = y.1 := by omega
      by_cases h4 : x.2.1 < y.2.1
      · simp [h3, h4]
      · by_cases h5 : y.2.1 < x.2.1 <;> simp [h3, h4, h5]
theorem aheadB_iff (x : Ln) (s c : Int) : aheadB x s c = true ↔ x.1 < s ∨ x.1 = s ∧ x.2.1 < c := by simp [aheadB]
theorem swoL : SWO (ltOf cfL) where
  irrefl x := by
    rw [cfL_lt]
    refine Bool.eq_false_iff.2 fun h => ?_
    rw [aheadB_iff] at h
    omega
  trans x y z h1 h2 := by rw [cfL_lt, aheadB_iff] at *; omega
  ntrans x y z h1 h2 := by
    rw [cfL_lt] at *
    rw [Bool.eq_false_iff, Ne, aheadB_iff] at *
    omega
theorem compare_any (x y : Int) (w : World) : Calls Try.prog 19 #[.int .i64 x, .int .i64 y] w fun e w' => e = .returned (.int .i64 (Lib.compareInt x y)) ∧ w' = w := by
  have hn : ∀ (n : Int) W, Calls Try.prog 25 #[.int .i64 n] W fun e w' => e = .returned (.bool false) ∧ w' = W := fun n W => by
    go_enter Try.func25, Try.ntmps25
    go_wp2
    go_ret
    exact ⟨by simp, rfl⟩
  unfold Lib.compareInt
  by_cases h1 : x < y
  · rw [if_pos h1]
    go_enter Try.func19, Try.ntmps19
    go_wp2_with fail
    refine (hn _ _).mono ?_
    rintro e w' ⟨rfl, rfl⟩
    go_wp2_with fail
    refine (hn _ _).mono ?_
    rintro e w' ⟨rfl, rfl⟩
    go_wp2_with fail
    go_ret
    exact ⟨rfl, rfl⟩
  · by_cases h2 : y < x
    · rw [if_neg h1, if_pos h2]
      have i1 : y ≤ x := by omega
      go_enter Try.func19, Try.ntmps19
      go_wp2_with fail
      refine (hn _ _).mono ?_
      rintro e w' ⟨rfl, rfl⟩
      go_wp2_with fail
      refine (hn _ _).mono ?_
      rintro e w' ⟨rfl, rfl⟩
      go_wp2_with fail
      go_ret
      exact ⟨rfl, rfl⟩
    · rw [if_neg h1, if_neg h2]
      have i1 : x = y := by omega
      subst i1
      go_enter Try.func19, Try.ntmps19
      go_wp2_with fail
      refine (hn _ _).mono ?_
      rintro e w' ⟨rfl, rfl⟩
      go_wp2_with fail
      refine (hn _ _).mono ?_
      rintro e w' ⟨rfl, rfl⟩
      go_wp2_with fail
      go_ret
      exact ⟨rfl, rfl⟩
theorem or_any (b : Nat) (x y : Int) (w : World) (h0 : w.cell? ⟨b, 0, none⟩ = some (.int .i64 x)) (h1 : w.cell? ⟨b, 1, none⟩ = some (.int .i64 y)) :
    Calls Try.prog 18 #[.slice (some ⟨b, 0, none⟩) 2 2] w fun e w' => e = .returned (.int .i64 (if x = 0 then y else x)) ∧ w' = w := by
  by_cases hx : x = 0
  · subst hx
    rw [if_pos rfl]
    by_cases hy : y = 0
    · subst hy
      go_enter Try.func18, Try.ntmps18
      go_wp2_with fail
      refine wp_loop_rounds 3 ?_
      rw [rounds_succ]
      go_wp2_with fail
      rw [rounds_succ]
      go_wp2_with fail
      rw [rounds_succ]
      go_wp2_with fail
      go_ret
      exact ⟨rfl, rfl⟩
    · go_enter Try.func18, Try.ntmps18
      go_wp2_with fail
      refine wp_loop_rounds 3 ?_
      rw [rounds_succ]
      go_wp2_with fail
      rw [rounds_succ]
      go_wp2_with fail
      go_ret
      exact ⟨rfl, rfl⟩
  · rw [if_neg hx]
    go_enter Try.func18, Try.ntmps18
    go_wp2_with fail
    refine wp_loop_rounds 3 ?_
    rw [rounds_succ]
    go_wp2_with fail
    go_ret
    exact ⟨rfl, rfl⟩
end Go.Proofs.Ytloebedipfppeaa
