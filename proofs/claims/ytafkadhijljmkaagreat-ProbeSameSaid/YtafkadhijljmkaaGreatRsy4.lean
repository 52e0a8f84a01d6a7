/- Layer 40: Counts. -/
import Derived.Test.YtafkadhijljmkaaGreatRsy3
namespace Go.Proofs.YtafkadhijljmkaaGreat
set_option linter.unusedVariables false
open Go.RowKit

def cntA (C : List Int) : Array Value := (C.map (Value.int .i64)).toArray
def z13 : List Int := [0, 0, 0, 0, 0, 0, 0, 0, 0, 0, 0, 0, 0]
def z4A : Array Value := #[.int .i64 0, .int .i64 0, .int .i64 0, .int .i64 0]
theorem zero_Cnt (w : World) : (zeroValue 72).run Tryz.prog w = .ok (.agg (cntA z13)) w := by kernel_rfl
theorem zero_A4 (w : World) : (zeroValue 70).run Tryz.prog w = .ok (.agg z4A) w := by kernel_rfl
theorem build_Cnt0 (w : World) : (Instr.build 72 #[]).run Tryz.prog w = .ok (.agg (cntA z13)) w := by kernel_rfl
theorem cnt_size {C : List Int} (h : C.length = 13) : (Tryz.prog.info? 72).map (·.size) = some (cntA C).size := by
  unfold cntA
  rw [List.size_toArray, List.length_map, h]
  kernel_rfl
theorem cnt_sizeL {C : List Int} (h : C.length = 13) : (Tryz.prog.info? 72).map (·.size) = some (C.map (Value.int .i64)).length := by
  rw [List.length_map, h]
  kernel_rfl
theorem cnt_ones (C : List Int) : (cntA C).all (·.oneCell') = true := toList_all fun v hv => by
  obtain ⟨n, -, rfl⟩ := List.mem_map.1 hv
  rfl
theorem DecI.rgC {W : World} {g b : Nat} {C : List Int} {l : List UInt8} (h : DecI W g b C l) : W.rangeAt g 1 (C.map (Value.int .i64)) := by
  have := h.blk.rg
  unfold decL at this
  exact (World.rangeAt_cons.1 this).2
set_option maxRecDepth 8000 in
set_option maxHeartbeats 400000 in
theorem rsyCounts_any {W : World} {g b : Nat} {C : List Int} {l : List UInt8} (h : DecI W g b C l) (h0 : C.getD 0 0 ≠ 0) :
    Calls Tryz.prog 12 #[.pointer (some ⟨g, 0, none⟩)] W fun e w' => e = .returned (.agg (cntA C)) ∧ DecI w' g b C l ∧ Below W.heap.size W w' := by
  have HZ := fun W => Lib.hid (zero_Cnt W)
  have HZA := fun W => Lib.hid (zero_A4 W)
  have H := Lib.hid h
  have hb0 : (C.getD 0 0 == 0) = false := by rw [beq_eq_false_iff_ne]; exact h0
  clear h h0
  go_enter Tryz.func12, Tryz.ntmps12
  go_upto_region 2 with (first
    | (refine wpList_alloc_new rfl 72 rfl (cntA z13) (HZ _).out ?_; intro W1 hW; have HC1 := Lib.hid (Blk.newL (L := z13.map (Value.int .i64)) hW rfl); have H1 := Lib.hid (H.out.on hW.bel); have HB1 := Lib.hid hW.bel; clear hW)
    | (refine wpList_alloc_new rfl 70 rfl z4A (HZA _).out ?_; intro W2 hW; have HC2 := Lib.hid (HC1.out.on hW.bel); have H2 := Lib.hid (H1.out.on hW.bel); have HB2 := Lib.hid (bthen HB1.out hW.bel); clear hW))
  obtain ⟨In, hIn⟩ : ∃ In, C.getD 0 0 = In := ⟨_, rfl⟩
  rw [hIn] at hb0
  have HIn := Lib.hid hIn
  clear hIn
  try (apply wp_seq_k; intro K_ HK_)
  have hS0 : Below W2.heap.size W2 W2.drew := (Below.refl _ _).drew
  refine wp_region_held_drew (S := fun w' => Below W2.heap.size W2 w') (by kernel_rfl) hS0 (fun hHeld0 => ?_)
  refine wpAnyH_take (i := 0) (oi := ⟨some 4, _, _, _, _, _⟩) (v := ?_) rfl (by kernel_rfl) (by kernel_rfl) (by kernel_rfl) (fun _ _ _ h => h) (Or.inl ⟨by rfl, ?_⟩) (by assumption) ?_
  rotate_left
  · intro w' hSw
    go_simp
    try with_reducible rfl
  try go_frame
  refine wpAnyH_ready (rs := [1]) (by kernel_rfl) (by simp) ?_
  refine AllReadyH.cons (o := ⟨some 5, _, _, _, _, _⟩) rfl (fun K hK => ?_) AllReadyH.nil
  rw [if_pos (by rfl)]
  go_step
  refine (rsyThere_any (H2.out.on hHeld0)).mono ?_
  rintro e W' ⟨rfl, rfl⟩
  try go_frame
  refine hK.out _ _ (hHeld0) (fun hHeld => ?_)
  clear hK K
  try go_frame
  refine wpAnyH_take (i := 2) (oi := ⟨some 6, _, _, _, _, _⟩) (v := ?_) rfl (by kernel_rfl) (by kernel_rfl) (by kernel_rfl) (fun _ _ _ h => h) (Or.inl ⟨by rfl, ?_⟩) (by assumption) ?_
  rotate_left
  · intro w' hSw
    go_simp
    try with_reducible rfl
  try go_frame
  refine wpAnyH_take (i := 3) (oi := ⟨some 7, _, _, _, _, _⟩) (v := ?_) rfl (by kernel_rfl) (by kernel_rfl) (by kernel_rfl) (fun _ _ _ h => h) (Or.inl ⟨by rfl, ?_⟩) (by assumption) ?_
  rotate_left
  · intro w' hSw
    go_simp
    try with_reducible rfl
  try go_frame
  refine wpAnyH_take (i := 4) (oi := ⟨some 8, _, _, _, _, _⟩) (v := ?_) rfl (by kernel_rfl) (by kernel_rfl) (by kernel_rfl) (fun _ _ _ h => h) (Or.inl ⟨by rfl, ?_⟩) (by assumption) ?_
  rotate_left
  · intro w' hSw
    go_simp
    try with_reducible rfl
  try go_frame
  refine wpAnyH_take (i := 5) (oi := ⟨some 9, _, _, _, _, _⟩) (v := ?_) rfl (by kernel_rfl) (by kernel_rfl) (by kernel_rfl) (fun _ _ _ h => h) (Or.inl ⟨by rfl, ?_⟩) (by assumption) ?_
  rotate_left
  · intro w' hSw
    go_simp
    try with_reducible rfl
  try go_frame
  refine wpAnyH_take (i := 6) (oi := ⟨some 10, _, _, _, _, _⟩) (v := ?_) rfl (by kernel_rfl) (by kernel_rfl) (by kernel_rfl) (fun _ _ _ h => h) (Or.inl ⟨by rfl, ?_⟩) (by assumption) ?_
  rotate_left
  · intro w' hSw
    go_simp
    try with_reducible rfl
  try go_frame
  refine wpAnyH_take (i := 7) (oi := ⟨some 11, _, _, _, _, _⟩) (v := ?_) rfl (by kernel_rfl) (by kernel_rfl) (by kernel_rfl) (fun _ _ _ h => h) (Or.inl ⟨by rfl, ?_⟩) (by assumption) ?_
  rotate_left
  · intro w' hSw
    go_simp
    try with_reducible rfl
  try go_frame
  refine wpAnyH_take (i := 8) (oi := ⟨some 12, _, _, _, _, _⟩) (v := ?_) rfl (by kernel_rfl) (by kernel_rfl) (by kernel_rfl) (fun _ _ _ h => h) (Or.inl ⟨by rfl, ?_⟩) (by assumption) ?_
  rotate_left
  · intro w' hSw
    have c1 : w'.cell? ⟨g, 1, none⟩ = some (.int .i64 In) := by have := (H2.out.on hSw).cd 0 (by omega); rw [HIn.out] at this; exact this
    go_simp
    try with_reducible rfl
  try go_frame
  refine wpAnyH_take (i := 9) (oi := ⟨some 13, _, _, _, _, _⟩) (v := ?_) rfl (by kernel_rfl) (by kernel_rfl) (by kernel_rfl) (fun _ _ _ h => h) (Or.inl ⟨by rfl, ?_⟩) (by assumption) ?_
  rotate_left
  · intro w' hSw
    go_simp
    try with_reducible rfl
  try go_frame
  refine wpAnyH_take (i := 10) (oi := ⟨some 14, _, _, _, _, _⟩) (v := ?_) rfl (by kernel_rfl) (by kernel_rfl) (by kernel_rfl) (fun _ _ _ h => h) (Or.inl ⟨by rfl, ?_⟩) (by assumption) ?_
  rotate_left
  · intro w' hSw
    go_simp
    try with_reducible rfl
  try go_frame
  refine wpAnyH_take (i := 11) (oi := ⟨some 15, _, _, _, _, _⟩) (v := undef) rfl (by kernel_rfl) (by kernel_rfl) (by kernel_rfl) (fun _ _ _ h => h) (Or.inr ⟨by rfl, rfl⟩) (by assumption) ?_
  try go_frame
  refine wpAnyH_take (i := 12) (oi := ⟨some 16, _, _, _, _, _⟩) (v := undef) rfl (by kernel_rfl) (by kernel_rfl) (by kernel_rfl) (fun _ _ _ h => h) (Or.inr ⟨by rfl, rfl⟩) (by assumption) ?_
  try go_frame
  refine wpAnyH_take (i := 13) (oi := ⟨some 17, _, _, _, _, _⟩) (v := undef) rfl (by kernel_rfl) (by kernel_rfl) (by kernel_rfl) (fun _ _ _ h => h) (Or.inr ⟨by rfl, rfl⟩) (by assumption) ?_
  try go_frame
  refine wpAnyH_take (i := 14) (oi := ⟨some 18, _, _, _, _, _⟩) (v := undef) rfl (by kernel_rfl) (by kernel_rfl) (by kernel_rfl) (fun _ _ _ h => h) (Or.inr ⟨by rfl, rfl⟩) (by assumption) ?_
  try go_frame
  refine wpAnyH_take (i := 15) (oi := ⟨some 19, _, _, _, _, _⟩) (v := undef) rfl (by kernel_rfl) (by kernel_rfl) (by kernel_rfl) (fun _ _ _ h => h) (Or.inr ⟨by rfl, rfl⟩) (by assumption) ?_
  try go_frame
  refine wpAnyH_take (i := 16) (oi := ⟨some 20, _, _, _, _, _⟩) (v := undef) rfl (by kernel_rfl) (by kernel_rfl) (by kernel_rfl) (fun _ _ _ h => h) (Or.inr ⟨by rfl, rfl⟩) (by assumption) ?_
  try go_frame
  refine wpAnyH_take (i := 17) (oi := ⟨some 21, _, _, _, _, _⟩) (v := undef) rfl (by kernel_rfl) (by kernel_rfl) (by kernel_rfl) (fun _ _ _ h => h) (Or.inr ⟨by rfl, rfl⟩) (by assumption) ?_
  try go_frame
  refine wpAnyH_take (i := 18) (oi := ⟨some 22, _, _, _, _, _⟩) (v := ?_) rfl (by kernel_rfl) (by kernel_rfl) (by kernel_rfl) (fun _ _ _ h => h) (Or.inl ⟨by rfl, ?_⟩) (by assumption) ?_
  rotate_left
  · intro w' hSw
    go_simp
    try with_reducible rfl
  try go_frame
  refine wpAnyH_take (i := 19) (oi := ⟨some 23, _, _, _, _, _⟩) (v := ?_) rfl (by kernel_rfl) (by kernel_rfl) (by kernel_rfl) (fun _ _ _ h => h) (Or.inl ⟨by rfl, ?_⟩) (by assumption) ?_
  rotate_left
  · intro w' hSw
    go_simp
    try with_reducible rfl
  try go_frame
  refine wpAnyH_done (by kernel_rfl) ?_ _
  try go_frame
  have HC3 : Hid (Blk _ W.heap.size (z13.map (Value.int .i64))) := Lib.hid (HC2.out.on hHeld0)
  have H3 := Lib.hid (H2.out.on hHeld0)
  have HB3 := Lib.hid (bthen HB2.out hHeld0)
  clear HC2 H2 HB2 HC1 H1 HB1
  have HL := Lib.hid H3.out.len
  go_wp2_with (first
    | refine wpList_load_mid rfl 72 _ rfl g 1 rfl (C.map (Value.int .i64)) _ H3.out.rgC Tryz.underlying72 rfl (cnt_sizeL HL.out) ?_
    | (refine wpList_store_in rfl 72 _ _ rfl W.heap.size 0 (cntA C) rfl rfl (HC3.out.there 0 (cntA C).size (by unfold cntA; rw [List.size_toArray, List.length_map, HL.out]; decide)) (cnt_size HL.out) (cnt_ones C) ?_; intro W4 hs; have HC4 := Lib.hid (HC3.out.all hs (by unfold cntA; rw [List.toList_toArray, List.length_map, HL.out]; rfl)); have H4 := Lib.hid (H3.out.kept2 hs (by have := H.out.blk.lt; omega) (by have := H.out.win.lt; omega)); have HB4 := Lib.hid (HB3.out.trans (hs.below (Nat.le_refl _))); clear hs))
  try go_frame
  have HLD := Lib.hid (run_loadVar_mid (P := Tryz.prog) W4 W.heap.size 0 72 (cntA C).toList _ HC4.out.rg Tryz.underlying72 rfl (by rw [Array.length_toList]; exact cnt_size HL.out))
  refine bodyPost_ret (v := .agg (cntA C)) (by rw [results_c0 rfl]; simp [asAddr, Result.andThen, HLD.out]) rfl ⟨rfl, H4.out, HB4.out⟩
end Go.Proofs.YtafkadhijljmkaaGreat
