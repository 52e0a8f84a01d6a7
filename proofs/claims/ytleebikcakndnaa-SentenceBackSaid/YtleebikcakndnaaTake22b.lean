/- sentence.Take, of any text. -/
import Derived.Test.YtleebikcakndnaaTake22
namespace Go.Proofs.Ytleebikcakndnaa
set_option linter.unusedVariables false
open Go.RowKit

theorem toList_len (s : ByteArray) : s.toList.length = s.size := by rw [ByteArray.toList_eq]; simp
theorem nonempty_forms {s : ByteArray} (h : 0 < s.size) : s.toList.isEmpty = false ∧ (s.toList == []) = false := by
  have hl := toList_len s
  cases hs : s.toList with
  | nil => rw [hs] at hl; simp at hl; omega
  | cons a l => exact ⟨rfl, rfl⟩
theorem byte_at (s : ByteArray) (n : Nat) (h : n < s.size) (c : UInt8) : (s.data.toList[n]? = some c) ↔ (s[n].toNat : Int) = (c.toNat : Int) := by
  rw [at_some s n h]
  constructor
  · intro h
    injection h with h
    rw [h]
  · intro h
    congr 1
    apply UInt8.toNat_inj.1
    omega
theorem lineB_ok {t : ByteArray} {i : Nat} (h : endE t = (i, 0)) : lineB t = t.extract 1 i := by unfold lineB; rw [h]; rfl

theorem openB_size {l b : ByteArray} (h : openB l = some b) : b.size + 3 = l.size := by
  unfold openB at h
  by_cases hs : l.size < 3
  · rw [if_pos hs] at h; cases h
  · rw [if_neg hs] at h
    split at h
    · injection h with h
      rw [← h, ByteArray.size_extract]
      omega
    · cases h
theorem formedB_size {l : ByteArray} (h : formedB l = true) : 8 ≤ l.size := by
  rcases Nat.lt_or_ge l.size 8 with h8 | h8
  · unfold formedB at h
    rw [decide_eq_false (by omega : ¬ 8 ≤ l.size)] at h
    cases h
  · exact h8

theorem takeS_0 {t : ByteArray} (h : t.size = 0) : takeS t = ((ByteArray.empty, ByteArray.empty, []), 0, 2) := by unfold takeS; rw [if_pos h]
theorem takeS_1 {t : ByteArray} (h0 : ¬ t.size = 0) (h : t.data.toList[0]? ≠ some 36) : takeS t = ((ByteArray.empty, ByteArray.empty, []), 0, 3) := by unfold takeS; rw [if_neg h0, if_pos h]
theorem takeS_2 {t : ByteArray} (h0 : ¬ t.size = 0) (h1 : t.data.toList[0]? = some 36) (h : (endE t).2 ≠ 0) : takeS t = ((ByteArray.empty, ByteArray.empty, []), 0, (endE t).2) := by
  unfold takeS; rw [if_neg h0, if_neg (fun k => k h1), if_pos h]
theorem takeS_3 {t : ByteArray} (h0 : ¬ t.size = 0) (h1 : t.data.toList[0]? = some 36) (h2 : (endE t).2 = 0) (h : t.size < (endE t).1 + 2) : takeS t = ((ByteArray.empty, ByteArray.empty, []), 0, 2) := by
  unfold takeS; rw [if_neg h0, if_neg (fun k => k h1), if_neg (fun k => k h2), if_pos h]
theorem takeS_4 {t : ByteArray} (h0 : ¬ t.size = 0) (h1 : t.data.toList[0]? = some 36) (h2 : (endE t).2 = 0) (h3 : ¬ t.size < (endE t).1 + 2) (h : t.data.toList[(endE t).1 + 1]? ≠ some 10 ∨ formedB (lineB t) = false) : takeS t = ((ByteArray.empty, ByteArray.empty, []), 0, 3) := by
  unfold takeS; rw [if_neg h0, if_neg (fun k => k h1), if_neg (fun k => k h2), if_neg h3, if_pos h]
theorem takeS_5 {t : ByteArray} (h0 : ¬ t.size = 0) (h1 : t.data.toList[0]? = some 36) (h2 : (endE t).2 = 0) (h3 : ¬ t.size < (endE t).1 + 2) (h4 : t.data.toList[(endE t).1 + 1]? = some 10) (h5 : formedB (lineB t) = true) :
    takeS t = match openB (lineB t) with
      | none => ((ByteArray.empty, ByteArray.empty, []), 0, 4)
      | some b => ((b.extract 0 2, b.extract 2 5, if 5 < b.size then splitB (b.extract 6 b.size) else []), (endE t).1 + 2, 0) := by
  unfold takeS; rw [if_neg h0, if_neg (fun k => k h1), if_neg (fun k => k h2), if_neg h3, if_neg (fun k => k.elim (fun a => a h4) (fun a => by rw [h5] at a; cases a))]
  cases openB (lineB t) <;> rfl

/-- Take: of any text. -/
theorem Take_any (t : ByteArray) (w : World) (hm : t.size ≤ 1000000) : Calls Try.prog 12 #[.string t] w (SenPost (takeS t) w) := by
  by_cases h0 : t.size = 0
  · rw [takeS_0 h0]
    have := bytes_empty h0
    subst this
    exact Take_empty w
  · have hz : 0 < t.size := by omega
    obtain ⟨f1, f2⟩ := nonempty_forms hz
    by_cases h1 : t.data.toList[0]? = some 36
    · have hc : (((t[0]'hz).toNat : Int) != 36) = false := by rw [bne_eq_false_iff_eq]; exact (byte_at t 0 hz 36).1 h1
      by_cases h2 : (endE t).2 = 0
      · obtain ⟨i, hi⟩ : ∃ i, endE t = (i, 0) := ⟨(endE t).1, by rw [← h2]⟩
        obtain ⟨b1, b2, b3⟩ := scanE_spec t 80 1 i hi
        have hL := lineB_ok hi
        have hi1 : (endE t).1 = i := by rw [hi]
        have hls : (t.extract 1 i).size = i - 1 := by rw [ByteArray.size_extract]; omega
        by_cases h3 : t.size < (endE t).1 + 2
        · rw [takeS_3 h0 h1 h2 h3]
          exact Take_short t _ i w hm hz f1 f2 hc h2 hL b1 (by omega) (by omega) (by omega) (by omega)
        · have hlt : i + 1 < t.size := by omega
          by_cases h4 : t.data.toList[(endE t).1 + 1]? = some 10
          · have ht : (((t[i + 1]'hlt).toNat : Int) != 10) = false := by rw [bne_eq_false_iff_eq]; rw [hi1] at h4; exact (byte_at t (i + 1) hlt 10).1 h4
            cases h5 : formedB (t.extract 1 i) with
            | false =>
              rw [takeS_4 h0 h1 h2 h3 (.inr (by rw [hL]; exact h5))]
              exact Take_formed t _ i w hm hz f1 f2 hc h2 hL b1 (by omega) (by omega) (by omega) (by omega) (by omega) ht h5
            | true =>
              rw [takeS_5 h0 h1 h2 h3 h4 (by rw [hL]; exact h5), hL]
              have h8 := formedB_size h5
              cases h6 : openB (t.extract 1 i) with
              | none => exact Take_open t _ i w hm hz f1 f2 hc h2 hL b1 (by omega) (by omega) (by omega) (by omega) (by omega) ht h5 h6
              | some b =>
                have hbs := openB_size h6
                show Calls Try.prog _ _ _ (SenPost ((b.extract 0 2, b.extract 2 5, if 5 < b.size then splitB (b.extract 6 b.size) else []), (endE t).1 + 2, 0) w)
                rw [hi1]
                by_cases h7 : 5 < b.size
                · rw [if_pos h7]
                  exact Take_more t _ b i w hm hz f1 f2 hc h2 hL b1 (by omega) (by omega) (by omega) (by omega) (by omega) ht h5 h6 h7 (by omega)
                · rw [if_neg h7]
                  exact Take_five t _ b i w hm hz f1 f2 hc h2 hL b1 (by omega) (by omega) (by omega) (by omega) (by omega) ht h5 h6 (by omega) (by omega)
          · have ht : (((t[i + 1]'hlt).toNat : Int) != 10) = true := by rw [bne_iff_ne]; rw [hi1] at h4; exact fun h => h4 ((byte_at t (i + 1) hlt 10).2 h)
            rw [takeS_4 h0 h1 h2 h3 (.inl h4)]
            exact Take_ten t _ i w hm hz f1 f2 hc h2 hL b1 (by omega) (by omega) (by omega) (by omega) (by omega) ht
      · rw [takeS_2 h0 h1 h2]
        exact Take_line t _ w hm hz f1 f2 hc rfl (by rw [bne_iff_ne]; exact h2)
    · have hc : (((t[0]'hz).toNat : Int) != 36) = true := by rw [bne_iff_ne]; exact fun h => h1 ((byte_at t 0 hz 36).2 h)
      rw [takeS_1 h0 h1]
      exact Take_first t w hz f1 f2 hc

end Go.Proofs.Ytleebikcakndnaa
