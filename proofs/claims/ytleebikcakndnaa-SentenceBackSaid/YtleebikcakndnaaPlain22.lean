/- The plain law of layer 22: what the reference asks of a line is what the program asks of it. -/
import Derived.Test.YtleebikcakndnaaTake22b
namespace Go.Proofs.Ytleebikcakndnaa
set_option linter.unusedVariables false
open Go.RowKit

theorem data_extract (s : ByteArray) (a b : Nat) : (s.extract a b).data.toList = (s.data.toList.drop a).take (b - a) := by rw [extract_list]; rfl
theorem size_list (s : ByteArray) : s.data.toList.length = s.size := by simp

theorem index_of {l p q : List UInt8} {c : UInt8} (h : l = p ++ c :: q) (hp : ∀ x ∈ p, x ≠ c) : Lib.indexByte l c = (p.length : Int) := by
  subst h
  induction p with
  | nil => simp [Lib.indexByte]
  | cons b p ih =>
    have hb : ¬ (b == c) = true := by simpa using hp b (by simp)
    have i1 := ih (fun x hx => hp x (by simp [hx]))
    rw [List.cons_append, Lib.indexByte, if_neg hb, i1, if_neg (by rw [beq_iff_eq]; omega), List.length_cons]
    omega

/-- A list parted at a place. -/
theorem parted (l : List UInt8) (n : Nat) (h : n < l.length) : l = l.take n ++ l[n] :: l.drop (n + 1) := by
  rw [List.getElem_cons_drop, List.take_append_drop]

theorem starsN_none {l : List UInt8} (h : ∀ x ∈ l, x ≠ 42) : starsN l = 0 := by
  unfold starsN
  rw [List.count_eq_zero]
  exact fun hm => h 42 hm rfl
theorem starsN_zero {l : List UInt8} (h : starsN l = 0) : ∀ x ∈ l, x ≠ 42 := by
  intro x hx h42
  subst h42
  unfold starsN at h
  rw [List.count_eq_zero] at h
  exact h hx
theorem starsN_cons42 (l : List UInt8) : starsN (42 :: l) = starsN l + 1 := by simp [starsN]

theorem unhex_no_star {l : List UInt8} {v : Int} (h : unhexL l = some v) : starsN l = 0 := by
  unfold unhexL at h
  split at h
  · rename_i a b
    split at h
    · rename_i hc
      rw [Bool.and_eq_true] at hc
      apply starsN_none
      intro x hx
      have : x = a ∨ x = b := by simpa using hx
      rcases this with rfl | rfl
      · intro h42; rw [h42] at hc; exact absurd hc.1 (by decide)
      · intro h42; rw [h42] at hc; exact absurd hc.2 (by decide)
    · cases h
  · cases h

theorem last_two {L : ByteArray} {n : Nat} : (L.extract (n + 1) L.size).data.toList = L.data.toList.drop (n + 1) := by
  rw [data_extract, List.take_of_length_le (by rw [List.length_drop, size_list]; exact Nat.le_refl _)]

section
variable {L : ByteArray} {n : Nat} (hn : L.size = n + 3)
include hn

theorem formed_star (h : formedB L = true) : (L[n]'(by omega)).toNat = 42 ∧ starsN L.data.toList = 1 := by
  have hl : n < L.data.toList.length := by rw [size_list]; omega
  unfold formedB at h
  rw [Bool.and_eq_true, Bool.and_eq_true, Bool.and_eq_true, Bool.and_eq_true] at h
  obtain ⟨⟨⟨⟨_, h2⟩, _⟩, h4⟩, _⟩ := h
  have hi : Lib.indexByte L.data.toList 42 = (n : Int) := by have := of_decide_eq_true h2; unfold cutI at this; omega
  obtain ⟨i1, i2, i3⟩ := index_at _ _ n hi
  rw [show L.size - 3 + 1 = n + 1 from by omega, last_two] at h4
  obtain ⟨v, hv⟩ := Option.isSome_iff_exists.1 h4
  have hz := unhex_no_star hv
  constructor
  · have : L.data.toList[n]? = some 42 := by
      have h0 : (L.data.toList.take n).length = n := by rw [List.length_take]; omega
      rw [i2, List.getElem?_append_right (by omega), h0, Nat.sub_self]
      rfl
    have := (byte_at L n (by omega) 42).1 this
    have e : (42 : UInt8).toNat = 42 := rfl
    omega
  · rw [i2, starsN_append, starsN_cons42, starsN_none i3, hz]

theorem formed_of (h5 : 5 ≤ n) (hs : (L[n]'(by omega)).toNat = 42) (h1 : starsN L.data.toList = 1) (hg : signsP (L.extract 0 5) 5 = true) (hc : n = 5 ∨ L.data.toList[5]? = some 44) {v : Int} (hu : unhexL (L.extract (n + 1) L.size).data.toList = some v) : formedB L = true := by
  have hl : n < L.data.toList.length := by rw [size_list]; omega
  have hat : L.data.toList[n] = 42 := by
    have h := (byte_at L n (by omega) 42).2 (by have e : (42 : UInt8).toNat = 42 := rfl; omega)
    rw [List.getElem?_eq_getElem hl] at h
    injection h
  have hp := parted L.data.toList n hl
  rw [hat] at hp
  have hno : ∀ x ∈ L.data.toList.take n, x ≠ 42 := by
    apply starsN_zero
    rw [hp, starsN_append, starsN_cons42] at h1
    omega
  have hi := index_of hp hno
  rw [List.length_take, Nat.min_eq_left (Nat.le_of_lt hl)] at hi
  unfold formedB cutI
  rw [hi, show L.size - 3 + 1 = n + 1 from by omega, hu, hg, decide_eq_true (by omega : 8 ≤ L.size), decide_eq_true (by omega : (n : Int) = (L.size : Int) - 3)]
  rcases hc with h | h
  · rw [decide_eq_true (by omega : L.size = 8)]; rfl
  · rw [h]; simp

theorem open_of (hs : (L[n]'(by omega)).toNat = 42) {v : Int} (hu : unhexL (L.extract (n + 1) L.size).data.toList = some v) : openB L = if v = sumI (L.extract 0 n) then some (L.extract 0 n) else none := by
  have h42 : L.data.toList[n]? = some 42 := (byte_at L n (by omega) 42).2 (by have e : (42 : UInt8).toNat = 42 := rfl; omega)
  unfold openB
  rw [if_neg (by omega), show L.size - 3 = n from by omega, hu]
  by_cases h : v = sumI (L.extract 0 n)
  · rw [if_pos ⟨h42, by rw [h]⟩, if_pos h]
  · rw [if_neg (fun k => h (by injection k.2)), if_neg h]
end

theorem sign_no_comma {s : ByteArray} (h : allB signP s = true) : ∀ x ∈ s.data.toList, x ≠ 44 := by
  intro x hx h44
  unfold allB at h
  rw [List.all_eq_true] at h
  have := h x hx
  rw [h44] at this
  exact absurd this (by decide)

/-- What stands behind the commas of a body is what the program cuts. -/
theorem fields_body (b : ByteArray) (h5 : 5 ≤ b.size) (hg : signsP (b.extract 0 5) 5 = true) (hc : b.size = 5 ∨ b.data.toList[5]? = some 44) :
    fieldsB b = if 5 < b.size then splitB (b.extract 6 b.size) else [] := by
  have hz := size_list b
  have ha : allB signP (b.extract 0 5) = true := by unfold signsP at hg; rw [Bool.and_eq_true] at hg; exact hg.2
  have hno := sign_no_comma ha
  rw [data_extract, List.drop_zero] at hno
  by_cases h : 5 < b.size
  · rw [if_pos h]
    have h44 : b.data.toList[5]? = some 44 := hc.resolve_left (by omega)
    have hp := parted b.data.toList 5 (by omega)
    have hat : b.data.toList[5]'(by omega) = 44 := by rw [List.getElem?_eq_getElem (by omega)] at h44; injection h44
    rw [hat] at hp
    have hs : splitC b.data.toList = b.data.toList.take 5 :: splitC (b.data.toList.drop 6) := by
      conv => lhs; rw [hp]
      exact splitC_at _ _ hno
    have e6 : (b.data.toList.drop 6).take (b.size - 6) = b.data.toList.drop 6 := List.take_of_length_le (by rw [List.length_drop, hz]; exact Nat.le_refl _)
    unfold fieldsB splitB
    rw [hs, data_extract, e6]
    rfl
  · rw [if_neg h]
    have hl : b.data.toList.take 5 = b.data.toList := List.take_of_length_le (by omega)
    rw [show 5 - 0 = 5 from rfl, hl] at hno
    unfold fieldsB
    rw [splitC_none _ hno]
    rfl

end Go.Proofs.Ytleebikcakndnaa
