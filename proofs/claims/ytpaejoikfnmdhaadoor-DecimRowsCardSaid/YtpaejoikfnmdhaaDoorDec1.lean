/- Layer 23: ten, Right, fits, of the program and of the reference. -/
import Derived.Test.YtpaejoikfnmdhaaDoorBas
import Derived.Test.YtpaejoikfnmdhaaDoorProg
import Derived.BigQuiet
namespace Go.Proofs.YtpaejoikfnmdhaaDoor
set_option linter.unusedVariables false
open Go.RowKit

/-- Ten to the power of k. -/
def tenI (k : Nat) : Int := ((10 ^ k : Nat) : Int)
theorem tenI_zero : tenI 0 = 1 := rfl
theorem tenI_succ (k : Nat) : tenI (k + 1) = tenI k * 10 := by unfold tenI; rw [Nat.pow_succ]; omega
theorem tenI_pos (k : Nat) : 1 ≤ tenI k := by
  unfold tenI
  have : 0 < 10 ^ k := Nat.pow_pos (by decide)
  omega
theorem tenI_le {k n : Nat} (h : k ≤ n) : tenI k ≤ tenI n := by
  unfold tenI
  have : 10 ^ k ≤ 10 ^ n := Nat.pow_le_pow_right (by decide) h
  omega
theorem tenI_18 : tenI 18 = 1000000000000000000 := by decide
theorem tenI_17 : tenI 17 = 100000000000000000 := by decide

set_option maxHeartbeats 1000000 in
theorem ten_any (n : Nat) (w : World) (hn : n ≤ 18) :
    Calls Tryd.prog 50 #[.int .i64 (n : Int)] w fun e w' => e = .returned (.int .i64 (tenI n)) ∧ w = w' := by
  go_enter Tryd.func50, Tryd.ntmps50
  go_wp2
  go_loop [3, 5] (fun p i => ∃ k : Nat, k ≤ n ∧ i = .int .i64 k ∧ p = .int .i64 (tenI k)) (fun _ i => n - (intOf i).toNat)
  case atStart => exact ⟨0, Nat.zero_le _, rfl, rfl⟩
  case round =>
    obtain ⟨k, hk, rfl, rfl⟩ := hrel
    by_cases hlt : k < n
    · have h1 := tenI_pos k
      have h2 := tenI_le (show k ≤ 17 by omega)
      rw [tenI_17] at h2
      have h3 := Lib.hid (tenI_succ k)
      generalize tenI k = T at *
      go_wp2
      go_round
      case rel => exact ⟨k + 1, by omega, by go_num, by rw [h3.out]⟩
      case measure => simp [intOf]; omega
    · obtain rfl : k = n := by omega
      go_wp2
      go_ret
      exact ⟨rfl, rfl⟩

set_option maxHeartbeats 1000000 in
theorem r23Ten_any (n : Nat) (w : World) (hn : n ≤ 18) :
    Calls Tryd.prog 46 #[.int .i64 (n : Int)] w fun e w' => e = .returned (.int .i64 (tenI n)) ∧ w = w' := by
  go_enter Tryd.func46, Tryd.ntmps46
  go_wp2
  go_loop [3, 4] (fun p i => ∃ k : Nat, k ≤ n ∧ i = .int .i64 k ∧ p = .int .i64 (tenI k)) (fun _ i => n - (intOf i).toNat)
  case atStart => exact ⟨0, Nat.zero_le _, rfl, rfl⟩
  case round =>
    obtain ⟨k, hk, rfl, rfl⟩ := hrel
    by_cases hlt : k < n
    · have h1 := tenI_pos k
      have h2 := tenI_le (show k ≤ 17 by omega)
      rw [tenI_17] at h2
      have h3 : Hid (tenI (k + 1) = 10 * tenI k) := by show _ = _; rw [tenI_succ, Int.mul_comm]
      generalize tenI k = T at *
      go_wp2
      go_round
      case rel => exact ⟨k + 1, by omega, by go_num, by rw [h3.out]⟩
      case measure => simp [intOf]; omega
    · obtain rfl : k = n := by omega
      go_wp2
      go_ret
      exact ⟨rfl, rfl⟩

/-- A column as a value. -/
abbrev colV (W M F L H : Int) : Value := .agg #[.int .i64 W, .int .i64 M, .int .i64 F, .int .i64 L, .int .i64 H]
/-- May a column be? -/
def rightB (W M F L H : Int) : Bool := decide (1 ≤ W ∧ W ≤ M ∧ M ≤ 12 ∧ 0 ≤ F ∧ F ≤ 6 ∧ L ≤ H ∧ -tenI (M + F).toNat < L ∧ H < tenI (M + F).toNat)

set_option maxHeartbeats 2000000 in
theorem Right_no (W M F L H : Int) (w : World) (h : W < 1 ∨ 1 ≤ W ∧ M < W ∨ 1 ≤ W ∧ W ≤ M ∧ 12 < M) :
    Calls Tryd.prog 14 #[colV W M F L H] w fun e w' => e = .returned (.bool false) ∧ Below w.heap.size w w' := by
  rcases h with h | ⟨h0, h⟩ | ⟨h0, h1, h⟩
  all_goals
    go_enter Tryd.func14, Tryd.ntmps14
    go_wp2
    go_ret
    exact ⟨rfl, below_new _ _⟩

set_option maxHeartbeats 2000000 in
theorem Right_no2 (W M F L H : Int) (w : World) (h0 : 1 ≤ W) (h1 : W ≤ M) (h2 : M ≤ 12) (h : F < 0 ∨ 0 ≤ F ∧ 6 < F ∨ 0 ≤ F ∧ F ≤ 6 ∧ H < L) :
    Calls Tryd.prog 14 #[colV W M F L H] w fun e w' => e = .returned (.bool false) ∧ Below w.heap.size w w' := by
  rcases h with h | ⟨h3, h⟩ | ⟨h3, h4, h⟩
  all_goals
    go_enter Tryd.func14, Tryd.ntmps14
    go_wp2
    go_ret
    exact ⟨rfl, below_new _ _⟩

set_option maxHeartbeats 2000000 in
theorem Right_end (W L H : Int) (m f : Nat) (w : World) (h0 : 1 ≤ W) (h1 : W ≤ (m : Int)) (h2 : m ≤ 12) (h3 : f ≤ 6) (h4 : L ≤ H) :
    Calls Tryd.prog 14 #[colV W m f L H] w fun e w' => e = .returned (.bool (decide (-tenI (m + f) < L ∧ H < tenI (m + f)))) ∧ Below w.heap.size w w' := by
  have HT := fun W => Lib.hid (ten_any (m + f) W (by omega))
  rw [Int.natCast_add] at HT
  have t1 := tenI_pos (m + f)
  have t2 := tenI_le (show m + f ≤ 18 by omega)
  rw [tenI_18] at t2
  generalize tenI (m + f) = T at *
  by_cases h5 : -T < L
  · have e : decide (-T < L ∧ H < T) = decide (H < T) := by simp [h5]
    rw [e]
    clear e
    go_enter Tryd.func14, Tryd.ntmps14
    go_wp2_with fail
    refine (HT _).out.mono ?_
    rintro e w' ⟨rfl, rfl⟩
    go_wp2_with fail
    go_ret
    exact ⟨rfl, below_new _ _⟩
  · have e : decide (-T < L ∧ H < T) = false := by simp [h5]
    rw [e]
    clear e
    go_enter Tryd.func14, Tryd.ntmps14
    go_wp2_with fail
    refine (HT _).out.mono ?_
    rintro e w' ⟨rfl, rfl⟩
    go_wp2_with fail
    go_ret
    exact ⟨rfl, below_new _ _⟩

theorem Right_any (W M F L H : Int) (w : World) : Calls Tryd.prog 14 #[colV W M F L H] w fun e w' => e = .returned (.bool (rightB W M F L H)) ∧ Below w.heap.size w w' := by
  by_cases h : 1 ≤ W ∧ W ≤ M ∧ M ≤ 12
  · obtain ⟨h0, h1, h2⟩ := h
    by_cases h : 0 ≤ F ∧ F ≤ 6 ∧ L ≤ H
    · obtain ⟨h3, h4, h5⟩ := h
      obtain ⟨m, rfl⟩ := Int.eq_ofNat_of_zero_le (show 0 ≤ M by omega)
      obtain ⟨f, rfl⟩ := Int.eq_ofNat_of_zero_le h3
      have e : rightB W m f L H = decide (-tenI (m + f) < L ∧ H < tenI (m + f)) := by
        unfold rightB
        rw [show ((m : Int) + (f : Int)).toNat = m + f from by omega]
        simp only [h0, h1, h2, h3, h4, h5, true_and]
      rw [e]
      exact Right_end W L H m f w h0 h1 (by omega) (by omega) h5
    · have e : rightB W M F L H = false := by
        unfold rightB
        rw [decide_eq_false_iff_not]
        rintro ⟨_, _, _, a, b, c, _⟩
        exact h ⟨a, b, c⟩
      rw [e]
      exact Right_no2 W M F L H w h0 h1 h2 (by omega)
  · have e : rightB W M F L H = false := by
      unfold rightB
      rw [decide_eq_false_iff_not]
      rintro ⟨a, b, c, _⟩
      exact h ⟨a, b, c⟩
    rw [e]
    exact Right_no W M F L H w (by omega)

end Go.Proofs.YtpaejoikfnmdhaaDoor
