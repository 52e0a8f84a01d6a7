/- Layer 23: Take, of the program and of the reference, over one plain law. -/
import Derived.Test.YtpaejoikfnmdhaaDoorDec18
namespace Go.Proofs.YtpaejoikfnmdhaaDoor
set_option linter.unusedVariables false
open Go.RowKit

def negL (l : List UInt8) : Bool := l.head? == some 45
def bodyL (l : List UInt8) : List UInt8 := if negL l then l.drop 1 else l
/-- The number of a text in a column. -/
def takeN (l : List UInt8) (W M F L H : Int) : Bool × Int × Int :=
  if rightB W M F L H = false then (false, 0, 1)
  else if l = [] then (false, 0, 0)
  else match parseN (bodyL l) 1 M.toNat F.toNat with
  | none => (false, 0, 3)
  | some n => if fitsB true (if negL l then -(n : Int) else (n : Int)) L H then (true, (if negL l then -(n : Int) else (n : Int)), 0) else (false, 0, 5)

theorem parseN_le {l : List UInt8} {a m f n : Nat} (h : parseN l a m f = some n) (hm : m + f ≤ 18) : n ≤ 2000000000000000000 := by
  unfold parseN at h
  have hA := cntD_take l
  split at h
  · cases h
  rename_i g1
  split at h
  · rename_i g2
    injection h with h
    rw [g2, List.take_length] at hA
    have v := val_le hA (n := f) (by omega)
    rw [tenI_cast, ← Int.natCast_mul] at v
    omega
  split at h
  · cases h
  rename_i g3
  injection h with h
  have hB := cntD_take (l.drop (cntD l + 1))
  have e1 : cntD (l.drop (cntD l + 1)) = (l.drop (cntD l + 1)).length := by rw [List.length_drop]; omega
  rw [e1, List.take_length] at hB
  have v1 := val_le hA (n := f) (by rw [List.length_take]; omega)
  have v2 := val_le hB (n := f - cntD (l.drop (cntD l + 1))) (by omega)
  rw [tenI_cast, ← Int.natCast_mul] at v1 v2
  omega
theorem size_pos {s : ByteArray} (h : s.data.toList ≠ []) : 0 < s.size := by
  rcases Nat.eq_zero_or_pos s.size with h0 | h0
  · exact absurd (List.eq_nil_of_length_eq_zero (by simpa using h0)) h
  · exact h0
theorem size_nil {s : ByteArray} (h : s.data.toList = []) : s.size = 0 := by
  have : s.data.toList.length = 0 := by rw [h]; rfl
  simpa using this
theorem negL_true {s : ByteArray} (h0 : 0 < s.size) (h : negL s.data.toList = true) : (((s[0]'h0).toNat : Int) == 45) = true := by
  unfold negL at h
  have e : s.data.toList.head? = some s[0] := by rw [List.head?_eq_getElem?, List.getElem?_eq_getElem (by simpa using h0)]; rfl
  rw [e] at h
  have h2 : s[0] = 45 := by simpa using h
  rw [h2]
  rfl
theorem negL_false {s : ByteArray} (h0 : 0 < s.size) (h : negL s.data.toList = false) : (((s[0]'h0).toNat : Int) == 45) = false := by
  unfold negL at h
  have e : s.data.toList.head? = some s[0] := by rw [List.head?_eq_getElem?, List.getElem?_eq_getElem (by simpa using h0)]; rfl
  rw [e] at h
  have h2 : s[0] ≠ 45 := by simpa using h
  rw [beq_eq_false_iff_ne]
  intro k
  exact h2 (UInt8.toNat_inj.1 (by have e : (45 : UInt8).toNat = 45 := rfl; omega))

theorem Take23_any (s : ByteArray) (W M F L H : Int) (w : World) (hs : s.size ≤ 1000000) :
    Calls Tryd.prog 11 #[.string s, colV W M F L H] w fun e w' => e = .returned (.tuple #[numV (takeN s.data.toList W M F L H).1 (takeN s.data.toList W M F L H).2.1, .int .i64 (takeN s.data.toList W M F L H).2.2]) ∧ Below w.heap.size w w' := by
  unfold takeN
  have HR := fun W' => Lib.hid (Right_any W M F L H W')
  by_cases hr : rightB W M F L H = false
  · rw [if_pos hr]
    rw [hr] at HR
    exact Take_arg s W M F L H w hs HR
  rw [if_neg hr]
  have hr' : rightB W M F L H = true := by simpa using hr
  rw [hr'] at HR
  have hb := of_decide_eq_true hr'
  by_cases h0 : s.data.toList = []
  · rw [if_pos h0]
    exact Take_empty s W M F L H w hs HR (size_nil h0)
  rw [if_neg h0]
  have hp := size_pos h0
  obtain ⟨m, rfl⟩ := Int.eq_ofNat_of_zero_le (show 0 ≤ M by omega)
  obtain ⟨f, rfl⟩ := Int.eq_ofNat_of_zero_le (show 0 ≤ F by omega)
  rw [Int.toNat_natCast, Int.toNat_natCast]
  cases hn : negL s.data.toList with
  | false =>
    have hc := negL_false hp hn
    have hbody : bodyL s.data.toList = s.data.toList := by unfold bodyL; rw [hn]; rfl
    have HP := fun W' => Lib.hid (parse_any s 1 m f W' hs (by omega) (by omega))
    rw [hbody]
    cases hq : parseN s.data.toList 1 m f with
    | none =>
      simp only [hq] at HP
      exact Take_form_pos s W m f L H 0 w hs hp hc HR HP
    | some n =>
      simp only [hq] at HP
      have hle := parseN_le hq (by omega)
      have HF := fun W' => Lib.hid (fits_any true (n : Int) L H W')
      cases hf : fitsB true (n : Int) L H with
      | false => rw [hf] at HF; simp only [Bool.false_eq_true, if_false, hf]; exact Take_range_pos s W m f L H n w hs hp hc HR HP (by omega) (by omega) HF
      | true => rw [hf] at HF; simp only [Bool.false_eq_true, if_false, hf, if_true]; exact Take_ok_pos s W m f L H n w hs hp hc HR HP (by omega) (by omega) HF
  | true =>
    have hc := negL_true hp hn
    have hbody : bodyL s.data.toList = (s.extract 1 s.size).data.toList := by unfold bodyL; rw [hn, if_pos rfl, Lib.extract_from]
    have HP := fun W' => Lib.hid (parse_any (s.extract 1 s.size) 1 m f W' (by rw [ByteArray.size_extract]; omega) (by omega) (by omega))
    rw [hbody]
    cases hq : parseN (s.extract 1 s.size).data.toList 1 m f with
    | none =>
      simp only [hq] at HP
      exact Take_form_neg s W m f L H 0 w hs hp hc HR HP
    | some n =>
      simp only [hq] at HP
      have hle := parseN_le hq (by omega)
      have HF := fun W' => Lib.hid (fits_any true (-(n : Int)) L H W')
      cases hf : fitsB true (-(n : Int)) L H with
      | false => rw [hf] at HF; simp only [Bool.false_eq_true, if_false, hf, if_true]; exact Take_range_neg s W m f L H n w hs hp hc HR HP (by omega) (by omega) HF
      | true => rw [hf] at HF; simp only [hf, if_true]; exact Take_ok_neg s W m f L H n w hs hp hc HR HP (by omega) (by omega) HF

theorem fitsB_false {v L H : Int} (h : fitsB true v L H = false) : v < L ∨ L ≤ v ∧ H < v := by
  unfold fitsB at h
  rw [if_pos rfl] at h
  have := of_decide_eq_false h
  omega
theorem fitsB_true {v L H : Int} (h : fitsB true v L H = true) : L ≤ v ∧ v ≤ H := by
  unfold fitsB at h
  rw [if_pos rfl] at h
  exact of_decide_eq_true h

theorem r23Take_any (s : ByteArray) (W M F L H : Int) (w : World) (hs : s.size ≤ 1000000) :
    Calls Tryd.prog 12 #[.string s, colV W M F L H] w fun e w' => e = .returned (.tuple #[numV (takeN s.data.toList W M F L H).1 (takeN s.data.toList W M F L H).2.1, .int .i64 (takeN s.data.toList W M F L H).2.2]) ∧ Below w.heap.size w w' := by
  unfold takeN
  have HR := fun W' => Lib.hid (r23Right_any W M F L H W')
  by_cases hr : rightB W M F L H = false
  · rw [if_pos hr]
    rw [hr] at HR
    exact r23Take_arg s W M F L H w hs HR
  rw [if_neg hr]
  have hr' : rightB W M F L H = true := by simpa using hr
  rw [hr'] at HR
  have hb := of_decide_eq_true hr'
  by_cases h0 : s.data.toList = []
  · rw [if_pos h0]
    exact r23Take_empty s W M F L H w hs HR (size_nil h0)
  rw [if_neg h0]
  have hp := size_pos h0
  obtain ⟨m, rfl⟩ := Int.eq_ofNat_of_zero_le (show 0 ≤ M by omega)
  obtain ⟨f, rfl⟩ := Int.eq_ofNat_of_zero_le (show 0 ≤ F by omega)
  rw [Int.toNat_natCast, Int.toNat_natCast]
  cases hn : negL s.data.toList with
  | false =>
    have hc := negL_false hp hn
    have hbody : bodyL s.data.toList = s.data.toList := by unfold bodyL; rw [hn]; rfl
    have HP := fun W' => Lib.hid (r23parse_any s 1 m f W' hs (by omega))
    rw [hbody]
    cases hq : parseN s.data.toList 1 m f with
    | none =>
      simp only [hq] at HP
      exact r23Take_form_pos s W m f L H 0 w hs hp hc HR HP
    | some n =>
      simp only [hq] at HP
      have hle := parseN_le hq (by omega)
      cases hf : fitsB true (n : Int) L H with
      | false =>
        simp only [Bool.false_eq_true, if_false, hf]
        rcases fitsB_false hf with h | ⟨h, h'⟩
        · exact r23Take_low_pos s W m f L H n w hs hp hc HR HP (by omega) (by omega) h
        · exact r23Take_high_pos s W m f L H n w hs hp hc HR HP (by omega) (by omega) h h'
      | true => simp only [Bool.false_eq_true, if_false, hf, if_true]; exact r23Take_ok_pos s W m f L H n w hs hp hc HR HP (by omega) (by omega) (fitsB_true hf).1 (fitsB_true hf).2
  | true =>
    have hc := negL_true hp hn
    have hbody : bodyL s.data.toList = (s.extract 1 s.size).data.toList := by unfold bodyL; rw [hn, if_pos rfl, Lib.extract_from]
    have HP := fun W' => Lib.hid (r23parse_any (s.extract 1 s.size) 1 m f W' (by rw [ByteArray.size_extract]; omega) (by omega))
    rw [hbody]
    cases hq : parseN (s.extract 1 s.size).data.toList 1 m f with
    | none =>
      simp only [hq] at HP
      exact r23Take_form_neg s W m f L H 0 w hs hp hc HR HP
    | some n =>
      simp only [hq] at HP
      have hle := parseN_le hq (by omega)
      cases hf : fitsB true (-(n : Int)) L H with
      | false =>
        simp only [Bool.false_eq_true, if_false, hf, if_true]
        rcases fitsB_false hf with h | ⟨h, h'⟩
        · exact r23Take_low_neg s W m f L H n w hs hp hc HR HP (by omega) (by omega) h
        · exact r23Take_high_neg s W m f L H n w hs hp hc HR HP (by omega) (by omega) h h'
      | true => simp only [hf, if_true]; exact r23Take_ok_neg s W m f L H n w hs hp hc HR HP (by omega) (by omega) (fitsB_true hf).1 (fitsB_true hf).2

end Go.Proofs.YtpaejoikfnmdhaaDoor
