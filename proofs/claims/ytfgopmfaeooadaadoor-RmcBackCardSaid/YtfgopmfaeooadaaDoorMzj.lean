/- Layer 25: knows; the law GgaPuts, walked. Printed by genggas.py. -/
import Derived.Test.YtfgopmfaeooadaaDoorMzi
import Derived.Test.YtfgopmfaeooadaaDoorMzg
import Derived.Test.YtfgopmfaeooadaaDoorMh
namespace Go.Proofs.YtfgopmfaeooadaaDoor
set_option linter.unusedVariables false
open Go.RowKit

theorem num25_any (n : Int) (w : World) : Calls Tryd.prog 9 #[.int .i64 n] w fun e w' => e = .returned (.int .i64 n) ∧ w = w' := by
  go_enter Tryd.func9, Tryd.ntmps9
  go_wp2
  go_ret
  exact ⟨rfl, rfl⟩
abbrev knG : List ByteArray := [ByteArray.empty, ByteArray.empty, ByteArray.empty, ByteArray.empty, ByteArray.empty, ⟨#[48]⟩, ByteArray.empty, ByteArray.empty, ByteArray.empty, ByteArray.empty, ByteArray.empty, ByteArray.empty, ByteArray.empty, ByteArray.empty]
theorem knG_take : takeGga knG = (zeroF, 0) := by
  have h : (takeGga knG).1.1 = zC ∧ (takeGga knG).1.2.1 = zN ∧ (takeGga knG).1.2.2.1 = zN ∧ (takeGga knG).1.2.2.2.1 = 0 ∧ (takeGga knG).1.2.2.2.2.1 = zN ∧ (takeGga knG).1.2.2.2.2.2.1 = zN ∧ (takeGga knG).1.2.2.2.2.2.2.1 = zN ∧ (takeGga knG).1.2.2.2.2.2.2.2.1 = zN ∧ (takeGga knG).1.2.2.2.2.2.2.2.2.1 = zN ∧ (takeGga knG).1.2.2.2.2.2.2.2.2.2 = zN ∧ (takeGga knG).2 = 0 := by decide +kernel
  generalize takeGga knG = x at *
  obtain ⟨⟨a, b, c, d, e, f, g, i, j, k⟩, E⟩ := x
  obtain ⟨h1, h2, h3, h4, h5, h6, h7, h8, h9, h10, h11⟩ := h
  simp only at h1 h2 h3 h4 h5 h6 h7 h8 h9 h10 h11
  subst h1 h2 h3 h4 h5 h6 h7 h8 h9 h10 h11
  rfl
theorem knG_put : putGga zeroF = (knG, 0) := by
  have h : (putGga zeroF).1 = knG ∧ (putGga zeroF).2 = 0 := by decide +kernel
  exact Prod.ext h.1 h.2
abbrev knC : Array Value := #[.string ⟨#[]⟩, .string ⟨#[]⟩, .string ⟨#[]⟩, .string ⟨#[]⟩, .string ⟨#[]⟩, .string ⟨#[48]⟩, .string ⟨#[]⟩, .string ⟨#[]⟩, .string ⟨#[]⟩, .string ⟨#[]⟩, .string ⟨#[]⟩, .string ⟨#[]⟩, .string ⟨#[]⟩, .string ⟨#[]⟩]
set_option maxRecDepth 8000 in
set_option maxHeartbeats 4000000 in
theorem knows25_any (w : World) : Calls Tryd.prog 6 #[] w fun e w' => e = .returned (.bool true) ∧ Below w.heap.size w w' := by
  have HB0 := Lib.hid (below_new w (.cells knC 9))
  have HST : Hid (Strs (w.alloc (.cells knC 9)) (w.alloc (.cells knC 9)).heap.size (some ⟨w.heap.size, 0, none⟩) knG) := fun k hk => by
    refine ⟨w.heap.size, 0, rfl, by simp, ?_⟩
    rw [Nat.zero_add, World.cell?_alloc_at _ _ _ _ rfl]
    have hk : k < 14 := hk
    rcases (by omega : k = 0 ∨ k = 1 ∨ k = 2 ∨ k = 3 ∨ k = 4 ∨ k = 5 ∨ k = 6 ∨ k = 7 ∨ k = 8 ∨ k = 9 ∨ k = 10 ∨ k = 11 ∨ k = 12 ∨ k = 13) with rfl | rfl | rfl | rfl | rfl | rfl | rfl | rfl | rfl | rfl | rfl | rfl | rfl | rfl <;> rfl
  have HT := ggaTake_any (some ⟨w.heap.size, 0, none⟩) knG 14 (w.alloc (.cells knC 9)) (fun q => by cases q) HST.out (by decide +kernel)
  rw [knG_take] at HT
  have HT1 : Hid (Calls Tryd.prog 7 #[.slice (some ⟨w.heap.size, 0, none⟩) 14 14] (w.alloc (.cells knC 9)) (GgaPost (zeroF, 0) (w.alloc (.cells knC 9)))) := HT
  have HP : ∀ W, Hid (Calls Tryd.prog 14 #[ggaV false 0 0 0 0 false 0 false 0 0 false 0 false 0 false 0 false 0 false 0 false 0] W (PutPost (knG, 0) W)) := fun W => by
    have := ggaPut_any false 0 0 0 0 false 0 false 0 0 false 0 false 0 false 0 false 0 false 0 false 0 W
    rw [show putGga ((false, 0, 0, 0, 0), (false, 0), (false, 0), 0, (false, 0), (false, 0), (false, 0), (false, 0), (false, 0), (false, 0)) = (knG, 0) from knG_put] at this
    exact this
  clear HT HST
  go_enter Tryd.func6, Tryd.ntmps6
  go_wp2_with fail
  generalize hW0 : w.alloc (.cells knC 9) = W0 at *
  clear hW0
  refine HT1.out.mono ?_
  rintro r w1 ⟨rfl, hb1⟩
  have HB1 := Lib.hid (bthen HB0.out hb1)
  clear hb1 HT1 HB0
  dsimp only
  iterate 13 (first | go_step | go_values)
  have HA2 : Hid (AtC (w1.alloc (.cells (ggaC false 0 0 0 0 false 0 false 0 0 false 0 false 0 false 0 false 0 false 0 false 0) 30)) w1.heap.size (ggaC false 0 0 0 0 false 0 false 0 0 false 0 false 0 false 0 false 0 false 0 false 0)) := fun o => World.cell?_alloc_at _ _ _ _ rfl
  have HF2 : Hid (∀ o, (w1.alloc (.cells (ggaC false 0 0 0 0 false 0 false 0 0 false 0 false 0 false 0 false 0 false 0 false 0) 30)).frozen? ⟨w1.heap.size, o, none⟩ = false) := fun o => by rw [frozen?_alloc_cells]; exact frozen_past _ _ _ (Nat.le_refl _)
  have HB2 : Hid (Below w.heap.size w (w1.alloc (.cells (ggaC false 0 0 0 0 false 0 false 0 0 false 0 false 0 false 0 false 0 false 0 false 0) 30))) := bthen HB1.out (below_new _ _)
  have HZ2 : Hid (w1.heap.size < (w1.alloc (.cells (ggaC false 0 0 0 0 false 0 false 0 0 false 0 false 0 false 0 false 0 false 0 false 0) 30)).heap.size ∧ w.heap.size ≤ w1.heap.size) := ⟨by simp, HB1.out.size⟩
  generalize hW2 : w1.alloc (.cells (ggaC false 0 0 0 0 false 0 false 0 0 false 0 false 0 false 0 false 0 false 0 false 0) 30) = W2 at *
  clear hW2
  refine wpList_store_mid rfl _ _ _ rfl w1.heap.size 0 (ggaC false 0 0 0 0 false 0 false 0 0 false 0 false 0 false 0 false 0 false 0 false 0) rfl rfl (there_of HA2.out HF2.out rfl) gga_size (by simp [Value.oneCell']) ?_
  have hY : (World.setCells W2 w1.heap.size 0 (ggaC false 0 0 0 0 false 0 false 0 0 false 0 false 0 false 0 false 0 false 0 false 0).toList).rangeAt w1.heap.size 0 (ggaC false 0 0 0 0 false 0 false 0 0 false 0 false 0 false 0 false 0 false 0 false 0).toList := World.rangeAt_setCells_same W2 w1.heap.size 0 (ggaC false 0 0 0 0 false 0 false 0 0 false 0 false 0 false 0 false 0 false 0 false 0).toList (there_of HA2.out HF2.out rfl)
  have hBY := below_cells HZ2.out.2 (ggaC false 0 0 0 0 false 0 false 0 0 false 0 false 0 false 0 false 0 false 0 false 0).toList 0 W2 HB2.out
  have hBZ := below_cells (Nat.le_refl w1.heap.size) (ggaC false 0 0 0 0 false 0 false 0 0 false 0 false 0 false 0 false 0 false 0 false 0).toList 0 W2 (Below.refl w1.heap.size W2)
  have HZ3 : Hid (w1.heap.size < (World.setCells W2 w1.heap.size 0 (ggaC false 0 0 0 0 false 0 false 0 0 false 0 false 0 false 0 false 0 false 0 false 0).toList).heap.size) := Nat.lt_of_lt_of_le HZ2.out.1 hBZ.size
  generalize World.setCells W2 w1.heap.size 0 (ggaC false 0 0 0 0 false 0 false 0 0 false 0 false 0 false 0 false 0 false 0 false 0).toList = W3 at *
  have HY := Lib.hid hY
  have HB3 := Lib.hid hBY
  clear hY hBY hBZ HA2 HF2 HB2 HZ2 HB1
  go_upto_region 2 with fail
  try (apply wp_seq_k; intro K_ HK_)
  apply wp_region_lit
  refine wpList_load_mid rfl _ _ rfl w1.heap.size 0 rfl [.bool false, .int .i64 0, .int .i64 0, .int .i64 0, .int .i64 0, .bool false, .int .i64 0, .bool false, .int .i64 0, .int .i64 0, .bool false, .int .i64 0, .bool false, .int .i64 0, .bool false, .int .i64 0, .bool false, .int .i64 0, .bool false, .int .i64 0, .bool false, .int .i64 0] _ HY.out Tryd.underlying30 rfl gga_size ?_
  go_wp2_with fail
  refine (HP _).out.mono ?_
  rintro e w4 ⟨v, rfl, B, d, rfl, hA, hs1, hf, hb1⟩
  have hY4 : w4.rangeAt w1.heap.size 0 (ggaC false 0 0 0 0 false 0 false 0 0 false 0 false 0 false 0 false 0 false 0 false 0).toList := fun j v hv => ((bcell hb1).1 _ _ HZ3.out).trans (HY.out j v hv)
  have HB4 := Lib.hid (bthen HB3.out hb1)
  obtain ⟨b, off, hB, -, c5⟩ := hs1 5 (by decide)
  obtain ⟨b', off', hB', -, c9⟩ := hs1 9 (by decide)
  subst hB
  injection hB' with hB'
  injection hB' with e1 e2
  subst e1 e2
  have c5 : w4.cell? ⟨b, off + 5, none⟩ = some (.string ⟨#[48]⟩) := c5
  have c9 : w4.cell? ⟨b, off + 9, none⟩ = some (.string ⟨#[]⟩) := c9
  have HC5 := Lib.hid c5
  have HC9 := Lib.hid c9
  have HY4 := Lib.hid hY4
  simp only [knG, List.length_cons, List.length_nil, Nat.reduceAdd]
  clear hs1 hA hf hb1 hY4 HB3 HY HP HZ3 c5 c9
  go_upto_region 3 with fail
  have c5 := HC5.out
  have c9 := HC9.out
  try (apply wp_seq_k; intro K2_ HK2_)
  apply wp_region_lit
  refine wpList_load_mid rfl _ _ rfl w1.heap.size 0 rfl [.bool false, .int .i64 0, .int .i64 0, .int .i64 0, .int .i64 0, .bool false, .int .i64 0, .bool false, .int .i64 0, .int .i64 0, .bool false, .int .i64 0, .bool false, .int .i64 0, .bool false, .int .i64 0, .bool false, .int .i64 0, .bool false, .int .i64 0, .bool false, .int .i64 0] _ HY4.out Tryd.underlying30 rfl gga_size ?_
  clear HY4
  go_wp2_with fail
  refine (num25_any _ _).mono ?_
  rintro e w' ⟨rfl, rfl⟩
  go_wp2_with fail
  refine (num25_any _ _).mono ?_
  rintro e w' ⟨rfl, rfl⟩
  go_wp2_with fail
  go_ret
  exact ⟨by rfl, HB4.out⟩

theorem putGga_len {g : GgaT} : (putGga g).1.length ≤ 14 := by
  by_cases h : (putGga g).2 = 0
  · exact Nat.le_of_eq (gga_put_take h).2
  · have : (putGga g).1 = [] := by unfold putGga at h ⊢; exact wrDone_none h
    rw [this]; simp
theorem there_lit {w : World} {R : Nat} {C : Array Value} (h : AtC w R C) : w.rangeAt R 0 C.toList := range_of h
end Go.Proofs.YtfgopmfaeooadaaDoor
