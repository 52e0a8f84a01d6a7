/- The law SentenceTakes, walked. -/
import Derived.Test.YtleebikcakndnaaLaw22
import Derived.Test.YtleebikcakndnaaRef22Take3
import Derived.Test.YtleebikcakndnaaSame22
namespace Go.Proofs.Ytleebikcakndnaa
set_option linter.unusedVariables false
open Go.RowKit

theorem splitC_len (l : List UInt8) : (splitC l).length ≤ l.length + 1 := by
  induction l with
  | nil => simp [splitC]
  | cons b l ih =>
    by_cases hb : b = 44
    · rw [hb, splitC_comma, List.length_cons, List.length_cons]; omega
    · rw [splitC_cons b l hb]
      cases hs : splitC l with
      | nil => simp [headC]
      | cons x r => rw [hs] at ih; simp [headC] at ih ⊢; omega
theorem endE_lt {t : ByteArray} (h : (endE t).2 = 0) : 1 ≤ (endE t).1 ∧ (endE t).1 < 81 ∧ (endE t).1 < t.size := by
  have := scanE_spec t 80 1 (endE t).1 (by rw [← h]; rfl)
  omega
theorem takeS_len (t : ByteArray) : (takeS t).1.2.2.length ≤ t.size + 1 := by
  unfold takeS
  split
  · exact Nat.zero_le _
  split
  · exact Nat.zero_le _
  split
  · exact Nat.zero_le _
  rename_i h2
  have hE := endE_lt (Classical.not_not.1 h2)
  split
  · exact Nat.zero_le _
  split
  · exact Nat.zero_le _
  split
  · exact Nat.zero_le _
  rename_i b hb
  have hs := openB_size hb
  have hl : (lineB t).size ≤ t.size := by
    have : endE t = ((endE t).1, 0) := by rw [← Classical.not_not.1 h2]
    rw [lineB_ok this, ByteArray.size_extract]
    omega
  dsimp only
  split
  · unfold splitB
    rw [List.length_map]
    have := splitC_len (b.extract 6 b.size).data.toList
    rw [size_list, ByteArray.size_extract] at this
    omega
  · exact Nat.zero_le _

set_option maxHeartbeats 2000000 in
theorem sentenceTakes_long (t : ByteArray) (w : World) (h : (500 : Int) < (t.size : Int)) (ht : t.size ≤ maxLen) :
    Calls Try.prog 4 #[.string t] w fun e w' => e = .returned (.bool true) ∧ Below w.heap.size w w' := by
  unfold maxLen at ht
  go_enter Try.func4, Try.ntmps4
  go_wp2_with fail
  refine (knows22_any _).mono ?_
  rintro e w1 ⟨rfl, hb1⟩
  go_wp2_with fail
  go_ret
  exact ⟨rfl, hb1⟩

set_option maxHeartbeats 2000000 in
theorem sentenceTakes_short (t : ByteArray) (w : World) (ht : t.size ≤ 500) :
    Calls Try.prog 4 #[.string t] w fun e w' => e = .returned (.bool true) ∧ Below w.heap.size w w' := by
  have HT := fun W => Lib.hid (Take_any t W (by omega))
  have HR := fun W => Lib.hid (r22Take_any t W (by omega))
  have HL : Hid ((takeS t).1.2.2.length ≤ 501) := by have := takeS_len t; show _ ≤ _; omega
  unfold SenPost at HT HR
  generalize takeS t = R at *
  obtain ⟨⟨T, Y, fs⟩, n, E⟩ := R
  have HS : ∀ (A B : Option Addr) (c d : Nat) (W : World), Strs W W.heap.size A fs → Strs W W.heap.size B fs → Hid (Calls Try.prog 14 #[.agg #[.string T, .string Y, .slice A fs.length c], .agg #[.string T, .string Y, .slice B fs.length d]] W fun e w' => e = .returned (.bool true) ∧ Below W.heap.size W w') := by
    intro A B c d W hA hB
    have := r22Same_any T Y T Y A B fs fs c d W (by have := HL.out; unfold maxLen; simp at this; omega) hA hB
    rw [decide_eq_true (show T = T ∧ Y = Y ∧ fs = fs from ⟨rfl, rfl, rfl⟩)] at this
    exact this
  clear HL
  dsimp only at HT HR
  generalize hn : fs.length = N at *
  clear hn
  go_enter Try.func4, Try.ntmps4
  go_wp2_with fail
  refine (knows22_any _).mono ?_
  rintro e w1 ⟨rfl, hb1⟩
  go_wp2_with fail
  refine (HT _).out.mono ?_
  rintro e w2 ⟨A, c, rfl, hst, hfr, hb2⟩
  obtain ⟨c2, f2⟩ := bcell hb2
  go_wp2_with fail
  refine (HR _).out.mono ?_
  rintro e w3 ⟨B, d, rfl, hst2, hfr2, hb3⟩
  obtain ⟨c3, f3⟩ := bcell hb3
  have hz : w2.heap.size < w3.heap.size := by have := hb3.size; simp at this; omega
  go_wp2_with fail
  refine (HS A B c d _ ((((hst.below (below_new w2 _) (Nat.le_refl _)).below hb3 (by simp)).below (below_new w3 _) (by omega)).more (by simp; omega)) ((hst2.below (below_new w3 _) (Nat.le_refl _)).more (by simp))).out.mono ?_
  rintro e w4 ⟨rfl, hb4⟩
  go_wp2_with fail
  refine (num22_any _ _).mono ?_
  rintro e w' ⟨rfl, rfl⟩
  go_wp2_with fail
  refine (num22_any _ _).mono ?_
  rintro e w' ⟨rfl, rfl⟩
  go_wp2_with fail
  go_ret
  exact ⟨rfl, bthen (bthen (bthen (bthen (bthen hb1 hb2) (below_new _ _)) hb3) (below_new _ _)) hb4⟩

theorem sentenceTakes_walk (t : ByteArray) (w : World) (ht : t.size ≤ maxLen) :
    Calls Try.prog 4 #[.string t] w fun e w' => e = .returned (.bool true) ∧ Below w.heap.size w w' := by
  by_cases h : t.size ≤ 500
  · exact sentenceTakes_short t w h
  · exact sentenceTakes_long t w (by omega) ht

end Go.Proofs.Ytleebikcakndnaa
