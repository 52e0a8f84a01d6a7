/- Layer 23: the reference's Right; fits. -/
import Derived.Test.YtpaejoikfnmdhaaDoorDec1
namespace Go.Proofs.YtpaejoikfnmdhaaDoor
set_option linter.unusedVariables false
open Go.RowKit

set_option maxHeartbeats 2000000 in
theorem r23Right_no (W M F L H : Int) (w : World) (h : W < 1 ∨ 1 ≤ W ∧ M < W ∨ 1 ≤ W ∧ W ≤ M ∧ 12 < M ∨ (1 ≤ W ∧ W ≤ M ∧ M ≤ 12) ∧ F < 0 ∨ (1 ≤ W ∧ W ≤ M ∧ M ≤ 12) ∧ 0 ≤ F ∧ 6 < F ∨ (1 ≤ W ∧ W ≤ M ∧ M ≤ 12) ∧ 0 ≤ F ∧ F ≤ 6 ∧ H < L) :
    Calls Tryd.prog 15 #[colV W M F L H] w fun e w' => e = .returned (.bool false) ∧ Below w.heap.size w w' := by
  rcases h with h | ⟨h0, h⟩ | ⟨h0, h1, h⟩ | ⟨⟨h0, h1, h2⟩, h⟩ | ⟨⟨h0, h1, h2⟩, h3, h⟩ | ⟨⟨h0, h1, h2⟩, h3, h4, h⟩
  all_goals
    go_enter Tryd.func15, Tryd.ntmps15
    go_wp2
    go_ret
    exact ⟨rfl, below_new _ _⟩

set_option maxHeartbeats 2000000 in
theorem r23Right_end (W L H : Int) (m f : Nat) (w : World) (h0 : 1 ≤ W) (h1 : W ≤ (m : Int)) (h2 : m ≤ 12) (h3 : f ≤ 6) (h4 : L ≤ H) :
    Calls Tryd.prog 15 #[colV W m f L H] w fun e w' => e = .returned (.bool (decide (-tenI (m + f) < L ∧ H < tenI (m + f)))) ∧ Below w.heap.size w w' := by
  have HT := fun W => Lib.hid (r23Ten_any (m + f) W (by omega))
  rw [Int.natCast_add] at HT
  have t1 := tenI_pos (m + f)
  have t2 := tenI_le (show m + f ≤ 18 by omega)
  rw [tenI_18] at t2
  generalize tenI (m + f) = T at *
  by_cases h5 : -T < L
  · by_cases h6 : L < T
    · have h7 : -T < H := by omega
      have e : decide (-T < L ∧ H < T) = decide (H < T) := by simp [h5]
      rw [e]
      clear e
      go_enter Tryd.func15, Tryd.ntmps15
      go_wp2_with fail
      refine (HT _).out.mono ?_
      rintro e w' ⟨rfl, rfl⟩
      go_wp2_with fail
      go_ret
      exact ⟨rfl, below_new _ _⟩
    · have e : decide (-T < L ∧ H < T) = false := by rw [decide_eq_false_iff_not]; omega
      rw [e]
      clear e
      go_enter Tryd.func15, Tryd.ntmps15
      go_wp2_with fail
      refine (HT _).out.mono ?_
      rintro e w' ⟨rfl, rfl⟩
      go_wp2_with fail
      go_ret
      exact ⟨rfl, below_new _ _⟩
  · have e : decide (-T < L ∧ H < T) = false := by simp [h5]
    rw [e]
    clear e
    go_enter Tryd.func15, Tryd.ntmps15
    go_wp2_with fail
    refine (HT _).out.mono ?_
    rintro e w' ⟨rfl, rfl⟩
    go_wp2_with fail
    go_ret
    exact ⟨rfl, below_new _ _⟩

theorem rightB_no {W M F L H : Int} (h : ¬ ((1 ≤ W ∧ W ≤ M ∧ M ≤ 12) ∧ 0 ≤ F ∧ F ≤ 6 ∧ L ≤ H)) : rightB W M F L H = false := by
  unfold rightB
  rw [decide_eq_false_iff_not]
  rintro ⟨a, b, c, d, e, f, _⟩
  exact h ⟨⟨a, b, c⟩, d, e, f⟩

theorem r23Right_any (W M F L H : Int) (w : World) : Calls Tryd.prog 15 #[colV W M F L H] w fun e w' => e = .returned (.bool (rightB W M F L H)) ∧ Below w.heap.size w w' := by
  by_cases h : (1 ≤ W ∧ W ≤ M ∧ M ≤ 12) ∧ 0 ≤ F ∧ F ≤ 6 ∧ L ≤ H
  · obtain ⟨⟨h0, h1, h2⟩, h3, h4, h5⟩ := h
    obtain ⟨m, rfl⟩ := Int.eq_ofNat_of_zero_le (show 0 ≤ M by omega)
    obtain ⟨f, rfl⟩ := Int.eq_ofNat_of_zero_le h3
    have e : rightB W m f L H = decide (-tenI (m + f) < L ∧ H < tenI (m + f)) := by
      unfold rightB
      rw [show ((m : Int) + (f : Int)).toNat = m + f from by omega]
      simp only [h0, h1, h2, h3, h4, h5, true_and]
    rw [e]
    exact r23Right_end W L H m f w h0 h1 (by omega) (by omega) h5
  · rw [rightB_no h]
    exact r23Right_no W M F L H w (by omega)

end Go.Proofs.YtpaejoikfnmdhaaDoor
