/- Layer 39, plain: bytes round the end. -/
namespace Go.Proofs.YtafkadhijljmkaaGreat
set_option linter.unusedVariables false
/-- xs in place of what stood in D from o on. -/
def splice {α : Type} (D : List α) (o : Nat) (xs : List α) : List α := D.take o ++ xs ++ D.drop (o + xs.length)
theorem splice_len {α : Type} {D : List α} {o : Nat} {xs : List α} (h : o + xs.length ≤ D.length) : (splice D o xs).length = D.length := by
  unfold splice
  simp only [List.length_append, List.length_take, List.length_drop]
  omega
theorem splice_get {α : Type} {D : List α} {o : Nat} {xs : List α} (h : o + xs.length ≤ D.length) (j : Nat) : (splice D o xs)[j]? = if o ≤ j ∧ j < o + xs.length then xs[j - o]? else D[j]? := by
  unfold splice
  have hl : (D.take o).length = o := by rw [List.length_take]; omega
  by_cases h1 : j < o
  · rw [if_neg (by omega), List.append_assoc, List.getElem?_append_left (by omega), List.getElem?_take_of_lt h1]
  · by_cases h2 : j < o + xs.length
    · rw [if_pos ⟨by omega, h2⟩, List.getElem?_append_left (by rw [List.length_append]; omega), List.getElem?_append_right (by omega), hl]
    · rw [if_neg (by omega), List.getElem?_append_right (by rw [List.length_append]; omega), List.length_append, hl, List.getElem?_drop]
      congr 1; omega
/-- The bytes in D from a on, round the end, are l. -/
def Ring (D : List UInt8) (a : Nat) (l : List UInt8) : Prop := ∀ i (h : i < l.length), D[(a + i) % 1024]? = some l[i]
theorem ring_put {D l xs : List UInt8} {a E K1 : Nat} (h : Ring D a l) (hD : D.length = 1024) (ha : a < 1024) (hl : l.length + xs.length ≤ 1024) (hE : E = (a + l.length) % 1024) (hK : K1 = min xs.length (1024 - E)) :
    Ring (splice (splice D E (xs.take K1)) 0 (xs.drop K1)) a (l ++ xs) := by
  intro i hi
  have l1 : (xs.take K1).length = K1 := by rw [List.length_take]; omega
  have l2 : (xs.drop K1).length = xs.length - K1 := List.length_drop
  have s1 : (splice D E (xs.take K1)).length = 1024 := by rw [splice_len (by rw [l1]; omega), hD]
  rw [List.length_append] at hi
  rw [splice_get (by rw [l2, s1]; omega), splice_get (by rw [l1]; omega), l1, l2]
  by_cases q : i < l.length
  · rw [if_neg (by omega), if_neg (by omega), h i q, List.getElem_append_left q]
  · rw [List.getElem_append_right (by omega)]
    by_cases r : i - l.length < K1
    · have e : (a + i) % 1024 = E + (i - l.length) := by omega
      rw [if_neg (by omega), if_pos (by omega), e, List.getElem?_take_of_lt (by omega), show E + (i - l.length) - E = i - l.length from by omega]
      exact List.getElem?_eq_getElem (by omega)
    · have e : (a + i) % 1024 = i - l.length - K1 := by omega
      rw [if_pos (by omega), List.getElem?_drop, show K1 + ((a + i) % 1024 - 0) = i - l.length from by omega]
      exact List.getElem?_eq_getElem (by omega)
theorem ring_drop {D l : List UInt8} {a k : Nat} (h : Ring D a l) (hk : k ≤ l.length) : Ring D ((a + k) % 1024) (l.drop k) := by
  intro i hi
  rw [List.length_drop] at hi
  have := h (k + i) (by omega)
  rw [show ((a + k) % 1024 + i) % 1024 = (a + (k + i)) % 1024 from by omega, this, List.getElem_drop]
/-- What is read: from a to the end, then from the head on. -/
theorem ring_peek {D l : List UInt8} {a K1 : Nat} (h : Ring D a l) (hD : D.length = 1024) (ha : a < 1024) (hl : l.length ≤ 1024) (hK : K1 = min l.length (1024 - a)) :
    (D.drop a).take K1 ++ D.take (l.length - K1) = l := by
  apply List.ext_getElem?
  intro i
  by_cases q : i < l.length
  · rw [List.getElem?_eq_getElem q, ← h i q]
    by_cases r : i < K1
    · rw [List.getElem?_append_left (by rw [List.length_take, List.length_drop]; omega), List.getElem?_take_of_lt r, List.getElem?_drop]
      congr 1; omega
    · rw [List.getElem?_append_right (by rw [List.length_take, List.length_drop]; omega), List.getElem?_take_of_lt (by rw [List.length_take, List.length_drop]; omega)]
      congr 1
      rw [List.length_take, List.length_drop]; omega
  · rw [List.getElem?_eq_none (l := l) (by omega), List.getElem?_eq_none]
    rw [List.length_append, List.length_take, List.length_take, List.length_drop]; omega
end Go.Proofs.YtafkadhijljmkaaGreat
