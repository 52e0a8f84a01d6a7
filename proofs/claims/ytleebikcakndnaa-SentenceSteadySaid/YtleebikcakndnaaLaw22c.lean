/- The law SentenceSteady, walked. -/
import Derived.Test.YtleebikcakndnaaPlain22c
namespace Go.Proofs.Ytleebikcakndnaa
set_option linter.unusedVariables false
open Go.RowKit

set_option maxHeartbeats 2000000 in
theorem sentenceSteady_long (t u : ByteArray) (w : World) (h : (500 : Int) < (t.size : Int)) (ht : t.size ≤ maxLen) :
    Calls Try.prog 6 #[.string t, .string u] w fun e w' => e = .returned (.bool true) ∧ Below w.heap.size w w' := by
  unfold maxLen at ht
  go_enter Try.func6, Try.ntmps6
  go_wp2_with fail
  refine (knows22_any _).mono ?_
  rintro e w1 ⟨rfl, hb1⟩
  go_wp2_with fail
  go_ret
  exact ⟨rfl, hb1⟩

set_option maxHeartbeats 2000000 in
theorem sentenceSteady_long2 (t u : ByteArray) (w : World) (h : t.size ≤ 500) (hu : (500 : Int) < (u.size : Int)) (ht : u.size ≤ maxLen) :
    Calls Try.prog 6 #[.string t, .string u] w fun e w' => e = .returned (.bool true) ∧ Below w.heap.size w w' := by
  unfold maxLen at ht
  go_enter Try.func6, Try.ntmps6
  go_wp2_with fail
  refine (knows22_any _).mono ?_
  rintro e w1 ⟨rfl, hb1⟩
  go_wp2_with fail
  go_ret
  exact ⟨rfl, hb1⟩

set_option maxHeartbeats 2000000 in
theorem sentenceSteady_same (t u : ByteArray) (w : World) (ht : t.size ≤ 500) (hu : u.size ≤ 500) (hs : Hid (takeS (t ++ u) = takeS t)) (h2 : ((takeS t).2.2 == 2) = false) :
    Calls Try.prog 6 #[.string t, .string u] w fun e w' => e = .returned (.bool true) ∧ Below w.heap.size w w' := by
  have HT := fun W => Lib.hid (Take_any t W (by omega))
  have HR := fun W => Lib.hid (Take_any (t ++ u) W (by rw [ByteArray.size_append]; omega))
  have HL : Hid ((takeS t).1.2.2.length ≤ 501) := by have := takeS_len t; show _ ≤ _; omega
  rw [hs.out] at HR
  clear hs
  unfold SenPost at HT HR
  generalize takeS t = R at *
  obtain ⟨⟨T, Y, fs⟩, n, E⟩ := R
  have HS : ∀ (A B : Option Addr) (c d : Nat) (W : World), Strs W W.heap.size A fs → Strs W W.heap.size B fs → Hid (Calls Try.prog 14 #[.agg #[.string T, .string Y, .slice A fs.length c], .agg #[.string T, .string Y, .slice B fs.length d]] W fun e w' => e = .returned (.bool true) ∧ Below W.heap.size W w') := by
    intro A B c d W hA hB
    have := r22Same_any T Y T Y A B fs fs c d W (by have := HL.out; unfold maxLen; simp at this; omega) hA hB
    rw [decide_eq_true (show T = T ∧ Y = Y ∧ fs = fs from ⟨rfl, rfl, rfl⟩)] at this
    exact this
  clear HL
  dsimp only at HT HR h2
  generalize hn : fs.length = N at *
  clear hn
  go_enter Try.func6, Try.ntmps6
  go_wp2_with fail
  refine (knows22_any _).mono ?_
  rintro e w1 ⟨rfl, hb1⟩
  go_wp2_with fail
  refine (HT _).out.mono ?_
  rintro e w2 ⟨A, c, rfl, hst, hfr, hb2⟩
  obtain ⟨c2, f2⟩ := bcell hb2
  go_wp2_with fail
  refine (HR _).out.mono ?_
  rintro e w3 ⟨B, d, rfl, hst2, hfr2, hb3⟩
  obtain ⟨c3, f3⟩ := bcell hb3
  have hz : w2.heap.size < w3.heap.size := by have := hb3.size; simp at this; omega
  go_wp2_with fail
  refine (num22_any _ _).mono ?_
  rintro e w' ⟨rfl, rfl⟩
  go_wp2_with fail
  refine (num22_any _ _).mono ?_
  rintro e w' ⟨rfl, rfl⟩
  go_wp2_with fail
  refine (HS A B c d _ ((((hst.below (below_new w2 _) (Nat.le_refl _)).below hb3 (by simp)).below (below_new w3 _) (by omega)).more (by simp; omega)) ((hst2.below (below_new w3 _) (Nat.le_refl _)).more (by simp))).out.mono ?_
  rintro e w4 ⟨rfl, hb4⟩
  go_wp2_with fail
  refine (num22_any _ _).mono ?_
  rintro e w' ⟨rfl, rfl⟩
  go_wp2_with fail
  refine (num22_any _ _).mono ?_
  rintro e w' ⟨rfl, rfl⟩
  go_wp2_with fail
  go_ret
  exact ⟨rfl, bthen (bthen (bthen (bthen (bthen hb1 hb2) (below_new _ _)) hb3) (below_new _ _)) hb4⟩

set_option maxHeartbeats 2000000 in
theorem sentenceSteady_few (t u : ByteArray) (w : World) (ht : t.size ≤ 500) (hu : u.size ≤ 500) (h2 : Hid ((takeS t).2.2 = 2)) :
    Calls Try.prog 6 #[.string t, .string u] w fun e w' => e = .returned (.bool true) ∧ Below w.heap.size w w' := by
  have HT := fun W => Lib.hid (Take_any t W (by omega))
  have HR := fun W => Lib.hid (Take_any (t ++ u) W (by rw [ByteArray.size_append]; omega))
  unfold SenPost at HT HR
  rw [h2.out] at HT
  clear h2
  generalize takeS t = R at *
  generalize takeS (t ++ u) = R2 at *
  obtain ⟨⟨T, Y, fs⟩, n, E⟩ := R
  obtain ⟨⟨T2, Y2, fs2⟩, n2, E2⟩ := R2
  dsimp only at HT HR
  generalize hn : fs.length = N at *
  clear hn
  generalize hn2 : fs2.length = N2 at *
  clear hn2
  go_enter Try.func6, Try.ntmps6
  go_wp2_with fail
  refine (knows22_any _).mono ?_
  rintro e w1 ⟨rfl, hb1⟩
  go_wp2_with fail
  refine (HT _).out.mono ?_
  rintro e w2 ⟨A, c, rfl, hst, hfr, hb2⟩
  go_wp2_with fail
  refine (HR _).out.mono ?_
  rintro e w3 ⟨B, d, rfl, hst2, hfr2, hb3⟩
  go_wp2_with fail
  refine (num22_any _ _).mono ?_
  rintro e w' ⟨rfl, rfl⟩
  go_wp2_with fail
  refine (num22_any _ _).mono ?_
  rintro e w' ⟨rfl, rfl⟩
  go_wp2_with fail
  go_ret
  exact ⟨rfl, bthen (bthen (bthen (bthen hb1 hb2) (below_new _ _)) hb3) (below_new _ _)⟩

theorem sentenceSteady_walk (t u : ByteArray) (w : World) (ht : t.size ≤ maxLen) (hu : u.size ≤ maxLen) :
    Calls Try.prog 6 #[.string t, .string u] w fun e w' => e = .returned (.bool true) ∧ Below w.heap.size w w' := by
  by_cases h : t.size ≤ 500
  · by_cases h' : u.size ≤ 500
    · by_cases h2 : (takeS t).2.2 = 2
      · exact sentenceSteady_few t u w h h' h2
      · have := take_more t.data.toList u.data.toList (by rw [B_toList]; exact h2)
        rw [← toB_append, B_toList, B_toList] at this
        exact sentenceSteady_same t u w h h' this (by rw [beq_eq_false_iff_ne]; exact h2)
    · exact sentenceSteady_long2 t u w h (by omega) hu
  · exact sentenceSteady_long t u w (by omega) ht

end Go.Proofs.Ytleebikcakndnaa
