/- The law GgaBack, walked and joined. Printed by genggak.py. -/
import Derived.Test.YtfgopmfaeooadaaGreatDoorMzj
import Derived.Test.YtfgopmfaeooadaaGreatDoorMvd
import Derived.Test.YtfgopmfaeooadaaGreatDoorMvs
namespace Go.Proofs.YtfgopmfaeooadaaGreatDoor
set_option linter.unusedVariables false
open Go.RowKit

theorem angN_size (b : Bool) (n : Int) (lat : Bool) : (angN b n lat).1.size ≤ 100 ∧ (angN b n lat).2.1.size ≤ 100 := by
  have hl : ∀ x, (toB (angL x lat)).size ≤ 100 := fun x => by
    rw [size_B]
    unfold angL
    have h1 := digL_len (x / 6000000) (wideN lat)
    have h2 := pointL_len (x % 6000000) 2 5
    rw [List.length_append]
    omega
  unfold angN
  split
  · exact ⟨Nat.zero_le _, Nat.zero_le _⟩
  split
  · exact ⟨Nat.zero_le _, Nat.zero_le _⟩
  split
  · exact ⟨hl _, by show (sideB _ _).size ≤ 100; rw [sideB_size]; omega⟩
  · exact ⟨hl _, by show (sideB _ _).size ≤ 100; rw [sideB_size]; omega⟩
theorem wrAng_small {lat : Bool} {n : Bool × Int} {s : Rd} (h : Small s.2) : Small (wrAng lat n s).2 := fun t ht => by
  unfold wrAng at ht
  rcases List.mem_append.1 ht with k | k
  · exact h t k
  · have := angN_size n.1 n.2 lat
    simp only [List.mem_cons, List.not_mem_nil, or_false] at k
    rcases k with rfl | rfl
    · exact this.1
    · exact this.2
theorem clkT_size (c : Clk) : (clkT c).1.size ≤ 100 := by
  unfold clkT
  split
  · exact Nat.zero_le _
  split
  · exact Nat.zero_le _
  · show (toB _).size ≤ 100
    rw [size_B]
    have : (clkTail c.2.2.2.2).length ≤ 3 := by
      unfold clkTail
      split
      · simp
      split
      · simp
      · simp [twoL]
    simp only [List.length_append, twoL, List.length_cons, List.length_nil]
    omega
theorem wrClk_small {c : Clk} {s : Rd} (h : Small s.2) : Small (wrClk c s).2 := wrText_small h (clkT_size c)
theorem wrDig_small {lo hi n : Int} {s : Rd} (h : Small s.2) : Small (wrDig lo hi n s).2 := by
  unfold wrDig
  split
  · exact wrText_small h (by decide)
  · exact wrText_small h (by rw [digT_size]; omega)
theorem putGga_small (g : GgaT) : Small (putGga g).1 := by
  unfold putGga
  refine wrDone_small ?_
  have h1 : Small (wrClk g.1 (0, [])).2 := wrClk_small Small.nil
  have h2 := wrAng_small (lat := true) (n := g.2.1) h1
  have h3 := wrAng_small (lat := false) (n := g.2.2.1) h2
  have h4 := wrDig_small (lo := 0) (hi := 8) (n := g.2.2.2.1) h3
  have h5 := wrNum_small (W := 1) (M := 2) (F := 0) (L := 0) (H := 99) (n := g.2.2.2.2.1) h4
  have h6 := wrNum_small (W := 1) (M := 3) (F := 2) (L := 0) (H := 99999) (n := g.2.2.2.2.2.1) h5
  have h7 := wrCol_small (k := altK) (n := g.2.2.2.2.2.2.1) h6 (by decide)
  have h8 := wrCol_small (k := geoK) (n := g.2.2.2.2.2.2.2.1) h7 (by decide)
  have h9 := wrNum_small (W := 1) (M := 4) (F := 1) (L := 0) (H := 99999) (n := g.2.2.2.2.2.2.2.2.1) h8
  exact wrNum_small (W := 1) (M := 4) (F := 0) (L := 0) (H := 1023) (n := g.2.2.2.2.2.2.2.2.2) h9
theorem range_keep {w w' : World} {b : Nat} {l : List Value} (h : w.rangeAt b 0 l) (hb : b < w.heap.size) (hB : Below w.heap.size w w') : w'.rangeAt b 0 l := fun j v hv => ((bcell hB).1 _ _ hb).trans (h j v hv)
theorem noLonger_small {T U : List ByteArray} (h : NoLonger T U) (hl : T.length = U.length) (hU : Small U) : Small T := fun t ht => by
  obtain ⟨k, hk, rfl⟩ := List.getElem_of_mem ht
  exact Nat.le_trans (h k _ _ (List.getElem?_eq_getElem hk) (List.getElem?_eq_getElem (hl ▸ hk))) (hU _ (List.getElem_mem _))
end Go.Proofs.YtfgopmfaeooadaaGreatDoor
