/- Layer 24: a text's time, by the reference: whatever bytes. Printed by genclkk.py. -/
import Derived.Test.YtfgopmfaeooadaaGreatDoorMzmm
import Derived.Test.YtfgopmfaeooadaaGreatDoorMzml
namespace Go.Proofs.YtfgopmfaeooadaaGreatDoor
set_option linter.unusedVariables false
open Go.RowKit
theorem r24Take_any (s : ByteArray) (w : World) (hs : s.size ≤ 1000000) : Calls Tryz.prog 81 #[.string s] w (ClkPost (takeClk s.data.toList) w) := by
  by_cases hb : 0 < s.size ∧ (s.size < 6 ∨ 6 ≤ s.size ∧ allD (s.extract 0 6).data.toList = false ∨
      ∃ h6 : 6 < s.size, allD (s.extract 0 6).data.toList = true ∧ (s[6] ≠ 46 ∨ s[6] = 46 ∧ s.size < 8 ∨ s[6] = 46 ∧ 8 ≤ s.size ∧ 9 < s.size ∨ s[6] = 46 ∧ 8 ≤ s.size ∧ s.size ≤ 9 ∧ allD (s.extract 7 s.size).data.toList = false))
  · exact r24Take_bad s w hs hb.1 hb.2
  · by_cases h0 : s.size = 0
    · obtain ⟨⟨l⟩⟩ := s
      cases l with
      | nil => exact r24Take_none w
      | cons a l => cases h0
    · have h6 : 6 ≤ s.size := by
        rcases Nat.lt_or_ge s.size 6 with h | h
        · exact absurd ⟨by omega, .inl h⟩ hb
        · exact h
      have d6 : allD (s.extract 0 6).data.toList = true := by
        cases h : allD (s.extract 0 6).data.toList with
        | true => rfl
        | false => exact absurd ⟨by omega, .inr (.inl ⟨h6, h⟩)⟩ hb
      rcases Nat.lt_or_ge 6 s.size with h | h
      · have e6 : s[6] = 46 := Classical.byContradiction fun q => hb ⟨by omega, .inr (.inr ⟨h, d6, .inl q⟩)⟩
        have h8 : 8 ≤ s.size := Nat.le_of_not_lt fun q => hb ⟨by omega, .inr (.inr ⟨h, d6, .inr (.inl ⟨e6, q⟩)⟩)⟩
        have h9 : s.size ≤ 9 := Nat.le_of_not_lt fun q => hb ⟨by omega, .inr (.inr ⟨h, d6, .inr (.inr (.inl ⟨e6, h8, q⟩))⟩)⟩
        have d7 : allD (s.extract 7 s.size).data.toList = true := by
          cases hd : allD (s.extract 7 s.size).data.toList with
          | true => rfl
          | false => exact absurd ⟨by omega, .inr (.inr ⟨h, d6, .inr (.inr (.inr ⟨e6, h8, h9, hd⟩))⟩)⟩ hb
        have E6 : s.data.toList[6]? = some 46 := by rw [List.getElem?_eq_getElem (by simpa using h)]; exact congrArg some e6
        clear e6
        rw [take_ext] at d6
        rw [drop_ext] at d7
        clear hb h0 h6 h
        obtain ⟨⟨l⟩⟩ := s
        match l, h8, h9, d6, d7, E6 with
        | [a, b, c, d, p, q, e, x], _, _, d6, d7, e6 =>
          have e6 : e = 46 := Option.some.inj e6
          subst e6
          have d6 : (digB a && (digB b && (digB c && (digB d && (digB p && (digB q && true)))))) = true := d6
          have d7 : (digB x && true) = true := d7
          simp only [Bool.and_eq_true, and_true] at d6 d7
          exact r24Take_8 a b c d p q x w ⟨d6.1, d6.2.1, d6.2.2.1, d6.2.2.2.1, d6.2.2.2.2.1, d6.2.2.2.2.2, d7⟩
        | [a, b, c, d, p, q, e, x, y], _, _, d6, d7, e6 =>
          have e6 : e = 46 := Option.some.inj e6
          subst e6
          have d6 : (digB a && (digB b && (digB c && (digB d && (digB p && (digB q && true)))))) = true := d6
          have d7 : (digB x && (digB y && true)) = true := d7
          simp only [Bool.and_eq_true, and_true] at d6 d7
          exact r24Take_9 a b c d p q x y w ⟨d6.1, d6.2.1, d6.2.2.1, d6.2.2.2.1, d6.2.2.2.2.1, d6.2.2.2.2.2, d7.1, d7.2⟩
        | a1 :: a2 :: a3 :: a4 :: a5 :: a6 :: a7 :: a8 :: a9 :: a10 :: l, _, h9, _, _, _ => exact absurd (show l.length + 10 ≤ 9 from h9) (by omega)
        | [], h8, _, _, _, _ => exact absurd (show 8 ≤ 0 from h8) (by omega)
        | [_], h8, _, _, _, _ => exact absurd (show 8 ≤ 1 from h8) (by omega)
        | [_, _], h8, _, _, _, _ => exact absurd (show 8 ≤ 2 from h8) (by omega)
        | [_, _, _], h8, _, _, _, _ => exact absurd (show 8 ≤ 3 from h8) (by omega)
        | [_, _, _, _], h8, _, _, _, _ => exact absurd (show 8 ≤ 4 from h8) (by omega)
        | [_, _, _, _, _], h8, _, _, _, _ => exact absurd (show 8 ≤ 5 from h8) (by omega)
        | [_, _, _, _, _, _], h8, _, _, _, _ => exact absurd (show 8 ≤ 6 from h8) (by omega)
        | [_, _, _, _, _, _, _], h8, _, _, _, _ => exact absurd (show 8 ≤ 7 from h8) (by omega)
      · have hz : s.size = 6 := by omega
        rw [take_ext] at d6
        clear hb h0 h6 h
        obtain ⟨⟨l⟩⟩ := s
        match l, hz, d6 with
        | [a, b, c, d, p, q], _, d6 =>
          have d6 : (digB a && (digB b && (digB c && (digB d && (digB p && (digB q && true)))))) = true := d6
          simp only [Bool.and_eq_true, and_true] at d6
          exact r24Take_6 a b c d p q w ⟨d6.1, d6.2.1, d6.2.2.1, d6.2.2.2.1, d6.2.2.2.2.1, d6.2.2.2.2.2⟩
        | a1 :: a2 :: a3 :: a4 :: a5 :: a6 :: a7 :: l, hz, _ => exact absurd (show l.length + 7 = 6 from hz) (by omega)
        | [], hz, _ => exact absurd (show 0 = 6 from hz) (by omega)
        | [_], hz, _ => exact absurd (show 1 = 6 from hz) (by omega)
        | [_, _], hz, _ => exact absurd (show 2 = 6 from hz) (by omega)
        | [_, _, _], hz, _ => exact absurd (show 3 = 6 from hz) (by omega)
        | [_, _, _, _], hz, _ => exact absurd (show 4 = 6 from hz) (by omega)
        | [_, _, _, _, _], hz, _ => exact absurd (show 5 = 6 from hz) (by omega)
end Go.Proofs.YtfgopmfaeooadaaGreatDoor
