/- Layer 25: knows; the law GgaPuts, walked. Printed by genggas.py. -/
import Derived.Test.YtfgopmfaeooadaaGreatDoorMzi
import Derived.Test.YtfgopmfaeooadaaGreatDoorMzg
import Derived.Test.YtfgopmfaeooadaaGreatDoorMh
namespace Go.Proofs.YtfgopmfaeooadaaGreatDoor
set_option linter.unusedVariables false
open Go.RowKit

abbrev knG : List ByteArray := [ByteArray.empty, ByteArray.empty, ByteArray.empty, ByteArray.empty, ByteArray.empty, ⟨#[48]⟩, ByteArray.empty, ByteArray.empty, ByteArray.empty, ByteArray.empty, ByteArray.empty, ByteArray.empty, ByteArray.empty, ByteArray.empty]
theorem knG_take : takeGga knG = (zeroF, 0) := by
  have h : (takeGga knG).1.1 = zC ∧ (takeGga knG).1.2.1 = zN ∧ (takeGga knG).1.2.2.1 = zN ∧ (takeGga knG).1.2.2.2.1 = 0 ∧ (takeGga knG).1.2.2.2.2.1 = zN ∧ (takeGga knG).1.2.2.2.2.2.1 = zN ∧ (takeGga knG).1.2.2.2.2.2.2.1 = zN ∧ (takeGga knG).1.2.2.2.2.2.2.2.1 = zN ∧ (takeGga knG).1.2.2.2.2.2.2.2.2.1 = zN ∧ (takeGga knG).1.2.2.2.2.2.2.2.2.2 = zN ∧ (takeGga knG).2 = 0 := by decide +kernel
  generalize takeGga knG = x at *
  obtain ⟨⟨a, b, c, d, e, f, g, i, j, k⟩, E⟩ := x
  obtain ⟨h1, h2, h3, h4, h5, h6, h7, h8, h9, h10, h11⟩ := h
  simp only at h1 h2 h3 h4 h5 h6 h7 h8 h9 h10 h11
  subst h1 h2 h3 h4 h5 h6 h7 h8 h9 h10 h11
  rfl
theorem knG_put : putGga zeroF = (knG, 0) := by
  have h : (putGga zeroF).1 = knG ∧ (putGga zeroF).2 = 0 := by decide +kernel
  exact Prod.ext h.1 h.2
abbrev knC : Array Value := #[.string ⟨#[]⟩, .string ⟨#[]⟩, .string ⟨#[]⟩, .string ⟨#[]⟩, .string ⟨#[]⟩, .string ⟨#[48]⟩, .string ⟨#[]⟩, .string ⟨#[]⟩, .string ⟨#[]⟩, .string ⟨#[]⟩, .string ⟨#[]⟩, .string ⟨#[]⟩, .string ⟨#[]⟩, .string ⟨#[]⟩]
theorem putGga_len {g : GgaT} : (putGga g).1.length ≤ 14 := by
  by_cases h : (putGga g).2 = 0
  · exact Nat.le_of_eq (gga_put_take h).2
  · have : (putGga g).1 = [] := by unfold putGga at h ⊢; exact wrDone_none h
    rw [this]; simp
theorem there_lit {w : World} {R : Nat} {C : Array Value} (h : AtC w R C) : w.rangeAt R 0 C.toList := range_of h
end Go.Proofs.YtfgopmfaeooadaaGreatDoor
