/- Layer 26: knows. Printed by genrmcs.py. -/
import Derived.Test.YtfgopmfaeooadaaGreatDoorMzs
import Derived.Test.YtfgopmfaeooadaaGreatDoorMzq
namespace Go.Proofs.YtfgopmfaeooadaaGreatDoor
set_option linter.unusedVariables false
open Go.RowKit

theorem num26_any (n : Int) (w : World) : Calls Tryz.prog 9 #[.int .i64 n] w fun e w' => e = .returned (.int .i64 n) ∧ w = w' := by
  go_enter Tryz.func9, Tryz.ntmps9
  go_wp2
  go_ret
  exact ⟨rfl, rfl⟩
abbrev knM : List ByteArray := [ByteArray.empty, ⟨#[86]⟩, ByteArray.empty, ByteArray.empty, ByteArray.empty, ByteArray.empty, ByteArray.empty, ByteArray.empty, ByteArray.empty, ByteArray.empty, ByteArray.empty]
abbrev knMP : List ByteArray := [ByteArray.empty, ⟨#[65]⟩, ByteArray.empty, ByteArray.empty, ByteArray.empty, ByteArray.empty, ByteArray.empty, ByteArray.empty, ByteArray.empty, ByteArray.empty, ByteArray.empty]
theorem knM_take : takeRmc knM = (zeroM, 0) := by
  have h : (takeRmc knM).1.1 = zC ∧ (takeRmc knM).1.2.1 = false ∧ (takeRmc knM).1.2.2.1 = zN ∧ (takeRmc knM).1.2.2.2.1 = zN ∧ (takeRmc knM).1.2.2.2.2.1 = zN ∧ (takeRmc knM).1.2.2.2.2.2.1 = zN ∧ (takeRmc knM).1.2.2.2.2.2.2.1 = zD ∧ (takeRmc knM).1.2.2.2.2.2.2.2 = zN ∧ (takeRmc knM).2 = 0 := by decide +kernel
  generalize takeRmc knM = x at *
  obtain ⟨⟨a, b, c, d, e, f, g, i⟩, E⟩ := x
  obtain ⟨h1, h2, h3, h4, h5, h6, h7, h8, h9⟩ := h
  simp only at h1 h2 h3 h4 h5 h6 h7 h8 h9
  subst h1 h2 h3 h4 h5 h6 h7 h8 h9
  rfl
theorem knM_put : putRmc (zC, true, zN, zN, zN, zN, zD, zN) = (knMP, 0) := by
  have h : (putRmc (zC, true, zN, zN, zN, zN, zD, zN)).1 = knMP ∧ (putRmc (zC, true, zN, zN, zN, zN, zD, zN)).2 = 0 := by decide +kernel
  exact Prod.ext h.1 h.2
abbrev knMC : Array Value := #[.string ⟨#[]⟩, .string ⟨#[86]⟩, .string ⟨#[]⟩, .string ⟨#[]⟩, .string ⟨#[]⟩, .string ⟨#[]⟩, .string ⟨#[]⟩, .string ⟨#[]⟩, .string ⟨#[]⟩, .string ⟨#[]⟩, .string ⟨#[]⟩]
set_option maxRecDepth 8000 in
set_option maxHeartbeats 4000000 in
theorem knows26_any (w : World) : Calls Tryz.prog 6 #[] w fun e w' => e = .returned (.bool true) ∧ Below w.heap.size w w' := by
  have HB0 := Lib.hid (below_new w (.cells knMC 9))
  have HST : Hid (Strs (w.alloc (.cells knMC 9)) (w.alloc (.cells knMC 9)).heap.size (some ⟨w.heap.size, 0, none⟩) knM) := fun k hk => by
    refine ⟨w.heap.size, 0, rfl, by simp, ?_⟩
    rw [Nat.zero_add, World.cell?_alloc_at _ _ _ _ rfl]
    have hk : k < 11 := hk
    rcases (by omega : k = 0 ∨ k = 1 ∨ k = 2 ∨ k = 3 ∨ k = 4 ∨ k = 5 ∨ k = 6 ∨ k = 7 ∨ k = 8 ∨ k = 9 ∨ k = 10) with rfl | rfl | rfl | rfl | rfl | rfl | rfl | rfl | rfl | rfl | rfl <;> rfl
  have HT := rmcTake_any (some ⟨w.heap.size, 0, none⟩) knM 11 (w.alloc (.cells knMC 9)) (fun q => by cases q) HST.out (by decide +kernel)
  rw [knM_take] at HT
  have HT1 : Hid (Calls Tryz.prog 7 #[.slice (some ⟨w.heap.size, 0, none⟩) 11 11] (w.alloc (.cells knMC 9)) (RmcPost (zeroM, 0) (w.alloc (.cells knMC 9)))) := HT
  have HP : ∀ W, Hid (Calls Tryz.prog 10 #[rmcV false 0 0 0 0 true false 0 false 0 false 0 false 0 false 0 false 0 0 0] W (PutPost (knMP, 0) W)) := fun W => by
    have := rmcPut_any false 0 0 0 0 true false 0 false 0 false 0 false 0 false 0 false 0 0 0 W
    rw [show putRmc ((false, 0, 0, 0, 0), true, (false, 0), (false, 0), (false, 0), (false, 0), (false, 0, 0, 0), (false, 0)) = (knMP, 0) from knM_put] at this
    exact this
  clear HT HST
  go_enter Tryz.func6, Tryz.ntmps6
  go_wp2_with fail
  generalize hW0 : w.alloc (.cells knMC 9) = W0 at *
  clear hW0
  refine HT1.out.mono ?_
  rintro r w1 ⟨rfl, hb1⟩
  have HB1 := Lib.hid (bthen HB0.out hb1)
  clear hb1 HT1 HB0
  dsimp only
  iterate 13 (first | go_step | go_values)
  have HA2 : Hid (AtC (w1.alloc (.cells (rmcC false 0 0 0 0 false false 0 false 0 false 0 false 0 false 0 false 0 0 0) 32)) w1.heap.size (rmcC false 0 0 0 0 false false 0 false 0 false 0 false 0 false 0 false 0 0 0)) := fun o => World.cell?_alloc_at _ _ _ _ rfl
  have HF2 : Hid (∀ o, (w1.alloc (.cells (rmcC false 0 0 0 0 false false 0 false 0 false 0 false 0 false 0 false 0 0 0) 32)).frozen? ⟨w1.heap.size, o, none⟩ = false) := fun o => by rw [frozen?_alloc_cells]; exact frozen_past _ _ _ (Nat.le_refl _)
  have HB2 : Hid (Below w.heap.size w (w1.alloc (.cells (rmcC false 0 0 0 0 false false 0 false 0 false 0 false 0 false 0 false 0 0 0) 32))) := bthen HB1.out (below_new _ _)
  have HZ2 : Hid (w1.heap.size < (w1.alloc (.cells (rmcC false 0 0 0 0 false false 0 false 0 false 0 false 0 false 0 false 0 0 0) 32)).heap.size ∧ w.heap.size ≤ w1.heap.size) := ⟨by simp, HB1.out.size⟩
  generalize hW2 : w1.alloc (.cells (rmcC false 0 0 0 0 false false 0 false 0 false 0 false 0 false 0 false 0 0 0) 32) = W2 at *
  clear hW2
  refine wpList_store_mid rfl _ _ _ rfl w1.heap.size 0 (rmcC false 0 0 0 0 false false 0 false 0 false 0 false 0 false 0 false 0 0 0) rfl rfl (there_of HA2.out HF2.out rfl) rmc_size (by simp [Value.oneCell']) ?_
  have hY : (World.setCells W2 w1.heap.size 0 (rmcC false 0 0 0 0 false false 0 false 0 false 0 false 0 false 0 false 0 0 0).toList).rangeAt w1.heap.size 0 (rmcC false 0 0 0 0 false false 0 false 0 false 0 false 0 false 0 false 0 0 0).toList := World.rangeAt_setCells_same W2 w1.heap.size 0 (rmcC false 0 0 0 0 false false 0 false 0 false 0 false 0 false 0 false 0 0 0).toList (there_of HA2.out HF2.out rfl)
  have hBY := below_cells HZ2.out.2 (rmcC false 0 0 0 0 false false 0 false 0 false 0 false 0 false 0 false 0 0 0).toList 0 W2 HB2.out
  have hBZ := below_cells (Nat.le_refl w1.heap.size) (rmcC false 0 0 0 0 false false 0 false 0 false 0 false 0 false 0 false 0 0 0).toList 0 W2 (Below.refl w1.heap.size W2)
  have HZ3 : Hid (w1.heap.size < (World.setCells W2 w1.heap.size 0 (rmcC false 0 0 0 0 false false 0 false 0 false 0 false 0 false 0 false 0 0 0).toList).heap.size) := Nat.lt_of_lt_of_le HZ2.out.1 hBZ.size
  generalize World.setCells W2 w1.heap.size 0 (rmcC false 0 0 0 0 false false 0 false 0 false 0 false 0 false 0 false 0 0 0).toList = W3 at *
  have HY := Lib.hid hY
  have HB3 := Lib.hid hBY
  clear hY hBY hBZ HA2 HF2 HB2 HZ2 HB1
  go_upto_region 2 with fail
  go_wp2_with fail
  refine (HP _).out.mono ?_
  rintro e w4 ⟨v, rfl, B, d, rfl, hA, hs1, hf, hb1⟩
  have hY4 : w4.rangeAt w1.heap.size 0 (rmcC false 0 0 0 0 false false 0 false 0 false 0 false 0 false 0 false 0 0 0).toList := fun j v hv => ((bcell hb1).1 _ _ HZ3.out).trans (HY.out j v hv)
  have HB4 := Lib.hid (bthen HB3.out hb1)
  obtain ⟨b, off, hB, -, c1⟩ := hs1 1 (by decide)
  subst hB
  have c1 : w4.cell? ⟨b, off + 1, none⟩ = some (.string ⟨#[65]⟩) := c1
  have HC1 := Lib.hid c1
  have HY4 := Lib.hid hY4
  simp only [knMP, List.length_cons, List.length_nil, Nat.reduceAdd]
  clear hs1 hA hf hb1 hY4 HB3 HY HP HZ3 c1
  go_upto_region 3 with fail
  have c1 := HC1.out
  try (apply wp_seq_k; intro K2_ HK2_)
  apply wp_region_lit
  refine wpList_load_mid rfl _ _ rfl w1.heap.size 0 rfl [.bool false, .int .i64 0, .int .i64 0, .int .i64 0, .int .i64 0, .bool false, .bool false, .int .i64 0, .bool false, .int .i64 0, .bool false, .int .i64 0, .bool false, .int .i64 0, .bool false, .int .i64 0, .bool false, .int .i64 0, .int .i64 0, .int .i64 0] _ HY4.out Tryz.underlying32 rfl rmc_size ?_
  clear HY4
  go_wp2_with fail
  refine (num26_any _ _).mono ?_
  rintro e w' ⟨rfl, rfl⟩
  go_wp2_with fail
  refine (num26_any _ _).mono ?_
  rintro e w' ⟨rfl, rfl⟩
  go_wp2_with fail
  go_ret
  exact ⟨by rfl, HB4.out⟩

end Go.Proofs.YtfgopmfaeooadaaGreatDoor
