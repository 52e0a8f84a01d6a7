/- Layer 38: the law ProbeSame. Printed by genprs.py. -/
import Derived.Test.YtafkadhijljmkaaGreatFew
namespace Go.Proofs.YtafkadhijljmkaaGreat
set_option linter.unusedVariables false
open Go.RowKit

set_option maxRecDepth 8000 in
set_option maxHeartbeats 2000000 in
theorem probeSame_go {w : World} {L M : List Value} {x y : ItmK} (h : Hid (ItmV w L x)) (h' : Hid (ItmV w M y)) : Calls Tryz.prog 3 #[.agg L.toArray, .agg M.toArray] w fun e w' => e = .returned (.bool true) ∧ Below w.heap.size w w' := by
  have HF : ∀ W, Below w.heap.size w W → Hid (Calls Tryz.prog 5 #[.agg L.toArray] W (BoolE W)) := fun W hb => Lib.hid (r38Few_ex (h.out.on hb))
  have HG : ∀ W, Below w.heap.size w W → Hid (Calls Tryz.prog 5 #[.agg M.toArray] W (BoolE W)) := fun W hb => Lib.hid (r38Few_ex (h'.out.on hb))
  have HK := fun W => Lib.hid (knows38_any W)
  have HSZ : Hid ((Tryz.prog.info? 61).map (·.size) = some L.length) := Lib.hid (by rw [h.out.len]; kernel_rfl)
  have HSY : Hid ((Tryz.prog.info? 61).map (·.size) = some M.length) := Lib.hid (by rw [h'.out.len]; kernel_rfl)
  obtain ⟨r, hr⟩ : ∃ r, eqItm x y = r := ⟨_, rfl⟩
  have S1 : ∀ W, Below w.heap.size w W → Hid (SameC 7 (.agg L.toArray) (.agg M.toArray) r W) := fun W hb => Lib.hid (by rw [← hr]; exact prbSame_any (h.out.on hb) (h'.out.on hb))
  have S2 : ∀ W, Below w.heap.size w W → Hid (SameC 8 (.agg L.toArray) (.agg M.toArray) r W) := fun W hb => Lib.hid (by rw [← hr]; exact r38Same_any (h.out.on hb) (h'.out.on hb))
  have S3 : ∀ W, Below w.heap.size w W → Hid (SameC 7 (.agg L.toArray) (.agg L.toArray) true W) := fun W hb => Lib.hid (by rw [← eqItm_self x]; exact prbSame_any (h.out.on hb) (h.out.on hb))
  have S4 : ∀ W, Below w.heap.size w W → Hid (SameC 7 (.agg M.toArray) (.agg M.toArray) true W) := fun W hb => Lib.hid (by rw [← eqItm_self y]; exact prbSame_any (h'.out.on hb) (h'.out.on hb))
  have HW0 := Lib.hid (And.intro h.out.len h'.out.len)
  clear hr h h'
  go_enter Tryz.func3, Tryz.ntmps3
  go_wp2_with (first
    | (refine wpList_box_new rfl _ _ rfl L.toArray rfl ?_; intro W1 hW; have K1 := Lib.hid (Blk.newL (L := L) hW List.toList_toArray); have HB1 := Lib.hid hW.bel; clear hW)
    | (refine wpList_box_new rfl _ _ rfl M.toArray rfl ?_; intro W2 hW; have K2 := Lib.hid (Blk.newL (L := M) hW List.toList_toArray); have KA := Lib.hid (K1.out.on hW.bel); have HB2 := Lib.hid (bthen HB1.out hW.bel); clear hW K1 HB1)
    | refine wpList_load_mid rfl 61 _ rfl w.heap.size 0 rfl L _ KA.out.rg Tryz.underlying61 rfl HSZ.out ?_)
  refine (HF _ HB2.out).out.mono ?_
  rintro e w3 ⟨b1, rfl, hb⟩
  have K3 := Lib.hid (K2.out.on hb)
  have KB := Lib.hid (KA.out.on hb)
  have HB3 := Lib.hid (bthen HB2.out hb)
  clear hb K2 KA HB2 HF
  cases b1
  · go_wp2_with fail
    refine (HK _).out.mono ?_
    rintro e w4 ⟨rfl, hb⟩
    have HB4 := Lib.hid (bthen HB3.out hb)
    clear hb
    go_wp2_with fail
    go_ret
    exact ⟨rfl, HB4.out⟩
  dsimp only
  repeat (fail_if_success (show Oper.wp _ ⟨some 9, _, _, _, _, _⟩ _ _ _ _)
          first | go_values | go_skip | go_guarded | go_step | go_upon)
  refine wp_load_mid _ _ rfl W1.heap.size 0 rfl M _ K3.out.rg Tryz.underlying61 rfl HSY.out ?_
  go_wp2_with fail
  refine (HG _ HB3.out).out.mono ?_
  rintro e w4 ⟨b2, rfl, hb⟩
  have K4 := Lib.hid (K3.out.on hb)
  have KC := Lib.hid (KB.out.on hb)
  have HB4 := Lib.hid (bthen HB3.out hb)
  clear hb K3 KB HB3 HG
  cases b2
  · go_wp2_with fail
    refine (HK _).out.mono ?_
    rintro e w5 ⟨rfl, hb⟩
    have HB5 := Lib.hid (bthen HB4.out hb)
    clear hb
    go_wp2_with fail
    go_ret
    exact ⟨rfl, HB5.out⟩
  go_wp2_with fail
  refine (HK _).out.mono ?_
  rintro e w5 ⟨rfl, hb⟩
  have K5 := Lib.hid (K4.out.on hb)
  have KD := Lib.hid (KC.out.on hb)
  have HB5 := Lib.hid (bthen HB4.out hb)
  clear hb K4 KC HB4 HK
  go_wp2_with fail
  try (apply wp_seq_k; intro K_ HK_)
  have i0 : (r == r) = true := beq_self_eq_true _
  have hS0 : Below w5.heap.size w5 w5.drew := (Below.refl _ _).drew
  refine wp_region_held_drew (S := fun w' => Below w5.heap.size w5 w') (by kernel_rfl) hS0 (fun hHeld0 => ?_)
  refine wpAnyH_take (i := 0) (oi := ⟨some 18, _, _, _, _, _⟩) (v := _) rfl (by kernel_rfl) (by kernel_rfl) (by kernel_rfl) (fun _ _ _ h => h) (yieldsIf_load_mid (by rfl) 61 _ rfl w.heap.size 0 rfl L _ (fun w' hSw => (KD.out.on hSw).rg) Tryz.underlying61 rfl (HSZ.out)) (by assumption) ?_
  try go_frame
  refine wpAnyH_take (i := 1) (oi := ⟨some 19, _, _, _, _, _⟩) (v := _) rfl (by kernel_rfl) (by kernel_rfl) (by kernel_rfl) (fun _ _ _ h => h) (yieldsIf_load_mid (by rfl) 61 _ rfl W1.heap.size 0 rfl M _ (fun w' hSw => (K5.out.on hSw).rg) Tryz.underlying61 rfl (HSY.out)) (by assumption) ?_
  try go_frame
  refine wpAnyH_take (i := 3) (oi := ⟨some 21, _, _, _, _, _⟩) (v := _) rfl (by kernel_rfl) (by kernel_rfl) (by kernel_rfl) (fun _ _ _ h => h) (yieldsIf_load_mid (by rfl) 61 _ rfl w.heap.size 0 rfl L _ (fun w' hSw => (KD.out.on hSw).rg) Tryz.underlying61 rfl (HSZ.out)) (by assumption) ?_
  try go_frame
  refine wpAnyH_take (i := 4) (oi := ⟨some 22, _, _, _, _, _⟩) (v := _) rfl (by kernel_rfl) (by kernel_rfl) (by kernel_rfl) (fun _ _ _ h => h) (yieldsIf_load_mid (by rfl) 61 _ rfl W1.heap.size 0 rfl M _ (fun w' hSw => (K5.out.on hSw).rg) Tryz.underlying61 rfl (HSY.out)) (by assumption) ?_
  try go_frame
  refine wpAnyH_ready (rs := [2]) (by kernel_rfl) (by simp) ?_
  refine AllReadyH.cons (o := ⟨some 20, _, _, _, _, _⟩) rfl (fun K hK => ?_) AllReadyH.nil
  rw [if_pos (by rfl)]
  go_step
  refine (show Calls _ _ _ _ _ from (S1 _ (bthen HB5.out hHeld0)).out).mono ?_
  rintro e v1 ⟨rfl, hb1⟩
  have hS1 : Below w5.heap.size w5 v1 := hHeld0.trans (hb1.mono hHeld0.size)
  clear hb1
  try go_frame
  refine hK.out _ _ (hS1) (fun hHeld => ?_)
  clear hK K
  try go_frame
  refine wpAnyH_ready (rs := [5]) (by kernel_rfl) (by simp) ?_
  refine AllReadyH.cons (o := ⟨some 23, _, _, _, _, _⟩) rfl (fun K hK => ?_) AllReadyH.nil
  rw [if_pos (by rfl)]
  go_step
  refine (show Calls _ _ _ _ _ from (S2 _ (bthen HB5.out hS1)).out).mono ?_
  rintro e v2 ⟨rfl, hb2⟩
  have hS2 : Below w5.heap.size w5 v2 := hS1.trans (hb2.mono hS1.size)
  clear hb2
  try go_frame
  refine hK.out _ _ (hS2) (fun hHeld => ?_)
  clear hK K
  try go_frame
  refine wpAnyH_take (i := 6) (oi := ⟨some 24, _, _, _, _, _⟩) (v := ?_) rfl (by kernel_rfl) (by kernel_rfl) (by kernel_rfl) (fun _ _ _ h => h) (Or.inl ⟨by rfl, ?_⟩) (by assumption) ?_
  rotate_left
  · intro w' hSw
    go_simp
    try with_reducible rfl
  try go_frame
  refine wpAnyH_take (i := 7) (oi := ⟨some 25, _, _, _, _, _⟩) (v := ?_) rfl (by kernel_rfl) (by kernel_rfl) (by kernel_rfl) (fun _ _ _ h => h) (Or.inl ⟨by rfl, ?_⟩) (by assumption) ?_
  rotate_left
  · intro w' hSw
    go_simp
    try with_reducible rfl
  try go_frame
  refine wpAnyH_take (i := 8) (oi := ⟨some 26, _, _, _, _, _⟩) (v := _) rfl (by kernel_rfl) (by kernel_rfl) (by kernel_rfl) (fun _ _ _ h => h) (yieldsIf_load_mid (by rfl) 61 _ rfl w.heap.size 0 rfl L _ (fun w' hSw => (KD.out.on hSw).rg) Tryz.underlying61 rfl (HSZ.out)) (by assumption) ?_
  try go_frame
  refine wpAnyH_take (i := 9) (oi := ⟨some 27, _, _, _, _, _⟩) (v := _) rfl (by kernel_rfl) (by kernel_rfl) (by kernel_rfl) (fun _ _ _ h => h) (yieldsIf_load_mid (by rfl) 61 _ rfl w.heap.size 0 rfl L _ (fun w' hSw => (KD.out.on hSw).rg) Tryz.underlying61 rfl (HSZ.out)) (by assumption) ?_
  try go_frame
  refine wpAnyH_ready (rs := [10]) (by kernel_rfl) (by simp) ?_
  refine AllReadyH.cons (o := ⟨some 28, _, _, _, _, _⟩) rfl (fun K hK => ?_) AllReadyH.nil
  rw [if_pos (by rfl)]
  go_step
  refine (show Calls _ _ _ _ _ from (S3 _ (bthen HB5.out hS2)).out).mono ?_
  rintro e v3 ⟨rfl, hb3⟩
  have hS3 : Below w5.heap.size w5 v3 := hS2.trans (hb3.mono hS2.size)
  clear hb3
  try go_frame
  refine hK.out _ _ (hS3) (fun hHeld => ?_)
  clear hK K
  try go_frame
  refine wpAnyH_take (i := 11) (oi := ⟨some 29, _, _, _, _, _⟩) (v := ?_) rfl (by kernel_rfl) (by kernel_rfl) (by kernel_rfl) (fun _ _ _ h => h) (Or.inl ⟨by rfl, ?_⟩) (by assumption) ?_
  rotate_left
  · intro w' hSw
    go_simp
    try with_reducible rfl
  try go_frame
  refine wpAnyH_take (i := 12) (oi := ⟨some 30, _, _, _, _, _⟩) (v := ?_) rfl (by kernel_rfl) (by kernel_rfl) (by kernel_rfl) (fun _ _ _ h => h) (Or.inl ⟨by rfl, ?_⟩) (by assumption) ?_
  rotate_left
  · intro w' hSw
    go_simp
    try with_reducible rfl
  try go_frame
  refine wpAnyH_take (i := 13) (oi := ⟨some 31, _, _, _, _, _⟩) (v := _) rfl (by kernel_rfl) (by kernel_rfl) (by kernel_rfl) (fun _ _ _ h => h) (yieldsIf_load_mid (by rfl) 61 _ rfl W1.heap.size 0 rfl M _ (fun w' hSw => (K5.out.on hSw).rg) Tryz.underlying61 rfl (HSY.out)) (by assumption) ?_
  try go_frame
  refine wpAnyH_take (i := 14) (oi := ⟨some 32, _, _, _, _, _⟩) (v := _) rfl (by kernel_rfl) (by kernel_rfl) (by kernel_rfl) (fun _ _ _ h => h) (yieldsIf_load_mid (by rfl) 61 _ rfl W1.heap.size 0 rfl M _ (fun w' hSw => (K5.out.on hSw).rg) Tryz.underlying61 rfl (HSY.out)) (by assumption) ?_
  try go_frame
  refine wpAnyH_ready (rs := [15]) (by kernel_rfl) (by simp) ?_
  refine AllReadyH.cons (o := ⟨some 33, _, _, _, _, _⟩) rfl (fun K hK => ?_) AllReadyH.nil
  rw [if_pos (by rfl)]
  go_step
  refine (show Calls _ _ _ _ _ from (S4 _ (bthen HB5.out hS3)).out).mono ?_
  rintro e v4 ⟨rfl, hb4⟩
  have hS4 : Below w5.heap.size w5 v4 := hS3.trans (hb4.mono hS3.size)
  clear hb4
  try go_frame
  refine hK.out _ _ (hS4) (fun hHeld => ?_)
  clear hK K
  try go_frame
  refine wpAnyH_take (i := 16) (oi := ⟨some 34, _, _, _, _, _⟩) (v := ?_) rfl (by kernel_rfl) (by kernel_rfl) (by kernel_rfl) (fun _ _ _ h => h) (Or.inl ⟨by rfl, ?_⟩) (by assumption) ?_
  rotate_left
  · intro w' hSw
    go_simp
    try with_reducible rfl
  try go_frame
  refine wpAnyH_take (i := 17) (oi := ⟨some 4, _, _, _, _, _⟩) (v := ?_) rfl (by kernel_rfl) (by kernel_rfl) (by kernel_rfl) (fun _ _ _ h => h) (Or.inl ⟨by rfl, ?_⟩) (by assumption) ?_
  rotate_left
  · intro w' hSw
    go_simp
    try with_reducible rfl
  try go_frame
  refine wpAnyH_done (by kernel_rfl) ?_ _
  try go_frame
  go_wp2_with fail
  go_ret
  exact ⟨rfl, bthen HB5.out hS4⟩
theorem probeSame_any (w : World) {L M : List Value} {x y : ItmK} (h : ItmV w L x) (h' : ItmV w M y) : Calls Tryz.prog 3 #[.agg L.toArray, .agg M.toArray] w fun e w' => e = .returned (.bool true) ∧ Below w.heap.size w w' := probeSame_go h h'
end Go.Proofs.YtafkadhijljmkaaGreat
