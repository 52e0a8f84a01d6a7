/- Structs compared part by part. Printed by genchain.py. -/
import Derived.Test.YtafkadhijljmkaaGreatChn
namespace Go.Proofs.YtafkadhijljmkaaGreat
set_option linter.unusedVariables false
open Go.RowKit

set_option maxRecDepth 8000 in
set_option maxHeartbeats 400000 in
theorem prbSame_go {pr prq : Int} {od odq : Bool} {U Uq : List Value} {N Nq : List Value} {T Tq : List Value} {b0 : Bool} {b1 : Bool} {b2 : Bool} {b3 : Bool} {b4 : Bool} {w : World} (lU : Hid (U.length = 48)) (lUq : Hid (Uq.length = 48)) (lN : Hid (N.length = 65)) (lNq : Hid (Nq.length = 65)) (lT : Hid (T.length = 5)) (lTq : Hid (Tq.length = 5)) (h0 : Hid ((pr == prq) = b0)) (h1 : Hid ((od == odq) = b1)) (h2 : Hid (∀ W, Below w.heap.size w W → Calls Tryz.prog 16 #[.agg U.toArray, .agg Uq.toArray] W fun e w' => e = .returned (.bool b2) ∧ Below W.heap.size W w')) (h3 : Hid (∀ W, Below w.heap.size w W → Calls Tryz.prog 17 #[.agg N.toArray, .agg Nq.toArray] W fun e w' => e = .returned (.bool b3) ∧ Below W.heap.size W w')) (h4 : Hid (∀ W, Below w.heap.size w W → Calls Tryz.prog 18 #[.agg T.toArray, .agg Tq.toArray] W fun e w' => e = .returned (.bool b4) ∧ Below W.heap.size W w')) :
    Calls Tryz.prog 7 #[.agg ([Value.int .i64 pr] ++ ([Value.bool od] ++ (U ++ (N ++ (T))))).toArray, .agg ([Value.int .i64 prq] ++ ([Value.bool odq] ++ (Uq ++ (Nq ++ (Tq))))).toArray] w fun e w' => e = .returned (.bool (b0 && (b1 && (b2 && (b3 && (b4)))))) ∧ Below w.heap.size w w' := by
  have SP : ∀ (W : World) (b : Nat), W.rangeAt b 0 ([Value.int .i64 pr] ++ ([Value.bool od] ++ (U ++ (N ++ (T))))) → W.rangeAt b 0 ([Value.int .i64 pr]) ∧ W.rangeAt b 1 ([Value.bool od]) ∧ W.rangeAt b 2 (U) ∧ W.rangeAt b 50 (N) ∧ W.rangeAt b 115 (T) := fun W b h => by
    obtain ⟨r0, s0⟩ := rg_split h (n := 1) rfl
    obtain ⟨r1, s1⟩ := rg_split s0 (n := 1) rfl
    obtain ⟨r2, s2⟩ := rg_split s1 (n := 48) lU.out
    obtain ⟨r3, s3⟩ := rg_split s2 (n := 65) lN.out
    exact ⟨r0, r1, r2, r3, s3⟩
  have SQ : ∀ (W : World) (b : Nat), W.rangeAt b 0 ([Value.int .i64 prq] ++ ([Value.bool odq] ++ (Uq ++ (Nq ++ (Tq))))) → W.rangeAt b 0 ([Value.int .i64 prq]) ∧ W.rangeAt b 1 ([Value.bool odq]) ∧ W.rangeAt b 2 (Uq) ∧ W.rangeAt b 50 (Nq) ∧ W.rangeAt b 115 (Tq) := fun W b h => by
    obtain ⟨r0, s0⟩ := rg_split h (n := 1) rfl
    obtain ⟨r1, s1⟩ := rg_split s0 (n := 1) rfl
    obtain ⟨r2, s2⟩ := rg_split s1 (n := 48) lUq.out
    obtain ⟨r3, s3⟩ := rg_split s2 (n := 65) lNq.out
    exact ⟨r0, r1, r2, r3, s3⟩
  have HSP := Lib.hid SP
  have HSQ := Lib.hid SQ
  clear SP SQ
  go_enter Tryz.func7, Tryz.ntmps7
  go_upto_region 1 with (first
    | (refine wpList_box_new rfl _ _ rfl ([Value.int .i64 pr] ++ ([Value.bool od] ++ (U ++ (N ++ (T))))).toArray rfl ?_; intro W1 hW; have K1 := Lib.hid (Blk.newL (L := [Value.int .i64 pr] ++ ([Value.bool od] ++ (U ++ (N ++ (T))))) hW List.toList_toArray); have HB1 := Lib.hid hW.bel; clear hW)
    | (refine wpList_box_new rfl _ _ rfl ([Value.int .i64 prq] ++ ([Value.bool odq] ++ (Uq ++ (Nq ++ (Tq))))).toArray rfl ?_; intro W2 hW; have Kq := Lib.hid (Blk.newL (L := [Value.int .i64 prq] ++ ([Value.bool odq] ++ (Uq ++ (Nq ++ (Tq))))) hW List.toList_toArray); have Kp := Lib.hid (K1.out.on hW.bel); have HBb := Lib.hid (bthen HB1.out hW.bel); clear hW K1 HB1))
  try go_frame
  have a0 := cell_of_range ((HSP.out _ _ Kp.out.rg).1)
  have c0 := cell_of_range ((HSQ.out _ _ Kq.out.rg).1)
  have a1 := cell_of_range ((HSP.out _ _ Kp.out.rg).2.1)
  have c1 := cell_of_range ((HSQ.out _ _ Kq.out.rg).2.1)
  try (apply wp_seq_k; intro K_ HK_)
  apply wp_region_lit
  cases b0
  · have g0 := h0.out
    go_wp2_with fail
    go_ret
    exact ⟨by rfl, HBb.out⟩
  have g0 := h0.out
  cases b1
  · have g1 := h1.out
    go_wp2_with fail
    go_ret
    exact ⟨by rfl, HBb.out⟩
  have g1 := h1.out
  repeat (fail_if_success (show Oper.wp _ ⟨some 19, _, _, _, _, _⟩ _ _ _ _)
          first | go_values | go_skip | go_guarded | go_step | go_upon)
  refine wp_load_mid _ _ rfl w.heap.size 2 rfl U _ (HSP.out _ _ Kp.out.rg).2.2.1 Tryz.underlying35 rfl (by rw [lU.out]; kernel_rfl) ?_
  repeat (fail_if_success (show Oper.wp _ ⟨some 21, _, _, _, _, _⟩ _ _ _ _)
          first | go_values | go_skip | go_guarded | go_step | go_upon)
  refine wp_load_mid _ _ rfl W1.heap.size 2 rfl Uq _ (HSQ.out _ _ Kq.out.rg).2.2.1 Tryz.underlying35 rfl (by rw [lUq.out]; kernel_rfl) ?_
  go_wp2_with fail
  refine (h2.out _ HBb.out).mono ?_
  rintro e V1 ⟨rfl, hb⟩
  have Kp1 := Lib.hid (Kp.out.on hb)
  have Kq1 := Lib.hid (Kq.out.on hb)
  have HB_1 := Lib.hid (bthen HBb.out hb)
  clear hb
  dsimp only
  cases b2
  · go_wp2_with fail
    go_ret
    exact ⟨by rfl, HB_1.out⟩
  repeat (fail_if_success (show Oper.wp _ ⟨some 26, _, _, _, _, _⟩ _ _ _ _)
          first | go_values | go_skip | go_guarded | go_step | go_upon)
  refine wp_load_mid _ _ rfl w.heap.size 50 rfl N _ (HSP.out _ _ Kp1.out.rg).2.2.2.1 Tryz.underlying55 rfl (by rw [lN.out]; kernel_rfl) ?_
  repeat (fail_if_success (show Oper.wp _ ⟨some 28, _, _, _, _, _⟩ _ _ _ _)
          first | go_values | go_skip | go_guarded | go_step | go_upon)
  refine wp_load_mid _ _ rfl W1.heap.size 50 rfl Nq _ (HSQ.out _ _ Kq1.out.rg).2.2.2.1 Tryz.underlying55 rfl (by rw [lNq.out]; kernel_rfl) ?_
  go_wp2_with fail
  refine (h3.out _ HB_1.out).mono ?_
  rintro e V2 ⟨rfl, hb⟩
  have Kp2 := Lib.hid (Kp1.out.on hb)
  have Kq2 := Lib.hid (Kq1.out.on hb)
  have HB_2 := Lib.hid (bthen HB_1.out hb)
  clear hb
  dsimp only
  cases b3
  · go_wp2_with fail
    go_ret
    exact ⟨by rfl, HB_2.out⟩
  repeat (fail_if_success (show Oper.wp _ ⟨some 33, _, _, _, _, _⟩ _ _ _ _)
          first | go_values | go_skip | go_guarded | go_step | go_upon)
  refine wp_load_mid _ _ rfl w.heap.size 115 rfl T _ (HSP.out _ _ Kp2.out.rg).2.2.2.2 Tryz.underlying59 rfl (by rw [lT.out]; kernel_rfl) ?_
  repeat (fail_if_success (show Oper.wp _ ⟨some 35, _, _, _, _, _⟩ _ _ _ _)
          first | go_values | go_skip | go_guarded | go_step | go_upon)
  refine wp_load_mid _ _ rfl W1.heap.size 115 rfl Tq _ (HSQ.out _ _ Kq2.out.rg).2.2.2.2 Tryz.underlying59 rfl (by rw [lTq.out]; kernel_rfl) ?_
  go_wp2_with fail
  refine (h4.out _ HB_2.out).mono ?_
  rintro e V3 ⟨rfl, hb⟩
  have Kp3 := Lib.hid (Kp2.out.on hb)
  have Kq3 := Lib.hid (Kq2.out.on hb)
  have HB_3 := Lib.hid (bthen HB_2.out hb)
  clear hb
  dsimp only
  go_wp2_with fail
  go_ret
  exact ⟨by rfl, HB_3.out⟩
set_option maxRecDepth 8000 in
set_option maxHeartbeats 400000 in
theorem r38Same_go {pr prq : Int} {od odq : Bool} {U Uq : List Value} {N Nq : List Value} {T Tq : List Value} {b0 : Bool} {b1 : Bool} {b2 : Bool} {b3 : Bool} {b4 : Bool} {w : World} (lU : Hid (U.length = 48)) (lUq : Hid (Uq.length = 48)) (lN : Hid (N.length = 65)) (lNq : Hid (Nq.length = 65)) (lT : Hid (T.length = 5)) (lTq : Hid (Tq.length = 5)) (h0 : Hid ((pr == prq) = b0)) (h1 : Hid ((od == odq) = b1)) (h2 : Hid (∀ W, Below w.heap.size w W → Calls Tryz.prog 19 #[.agg U.toArray, .agg Uq.toArray] W fun e w' => e = .returned (.bool b2) ∧ Below W.heap.size W w')) (h3 : Hid (∀ W, Below w.heap.size w W → Calls Tryz.prog 20 #[.agg N.toArray, .agg Nq.toArray] W fun e w' => e = .returned (.bool b3) ∧ Below W.heap.size W w')) (h4 : Hid (∀ W, Below w.heap.size w W → Calls Tryz.prog 21 #[.agg T.toArray, .agg Tq.toArray] W fun e w' => e = .returned (.bool b4) ∧ Below W.heap.size W w')) :
    Calls Tryz.prog 8 #[.agg ([Value.int .i64 pr] ++ ([Value.bool od] ++ (U ++ (N ++ (T))))).toArray, .agg ([Value.int .i64 prq] ++ ([Value.bool odq] ++ (Uq ++ (Nq ++ (Tq))))).toArray] w fun e w' => e = .returned (.bool (b0 && (b1 && (b2 && (b3 && (b4)))))) ∧ Below w.heap.size w w' := by
  have SP : ∀ (W : World) (b : Nat), W.rangeAt b 0 ([Value.int .i64 pr] ++ ([Value.bool od] ++ (U ++ (N ++ (T))))) → W.rangeAt b 0 ([Value.int .i64 pr]) ∧ W.rangeAt b 1 ([Value.bool od]) ∧ W.rangeAt b 2 (U) ∧ W.rangeAt b 50 (N) ∧ W.rangeAt b 115 (T) := fun W b h => by
    obtain ⟨r0, s0⟩ := rg_split h (n := 1) rfl
    obtain ⟨r1, s1⟩ := rg_split s0 (n := 1) rfl
    obtain ⟨r2, s2⟩ := rg_split s1 (n := 48) lU.out
    obtain ⟨r3, s3⟩ := rg_split s2 (n := 65) lN.out
    exact ⟨r0, r1, r2, r3, s3⟩
  have SQ : ∀ (W : World) (b : Nat), W.rangeAt b 0 ([Value.int .i64 prq] ++ ([Value.bool odq] ++ (Uq ++ (Nq ++ (Tq))))) → W.rangeAt b 0 ([Value.int .i64 prq]) ∧ W.rangeAt b 1 ([Value.bool odq]) ∧ W.rangeAt b 2 (Uq) ∧ W.rangeAt b 50 (Nq) ∧ W.rangeAt b 115 (Tq) := fun W b h => by
    obtain ⟨r0, s0⟩ := rg_split h (n := 1) rfl
    obtain ⟨r1, s1⟩ := rg_split s0 (n := 1) rfl
    obtain ⟨r2, s2⟩ := rg_split s1 (n := 48) lUq.out
    obtain ⟨r3, s3⟩ := rg_split s2 (n := 65) lNq.out
    exact ⟨r0, r1, r2, r3, s3⟩
  have HSP := Lib.hid SP
  have HSQ := Lib.hid SQ
  clear SP SQ
  go_enter Tryz.func8, Tryz.ntmps8
  go_upto_region 1 with (first
    | (refine wpList_box_new rfl _ _ rfl ([Value.int .i64 pr] ++ ([Value.bool od] ++ (U ++ (N ++ (T))))).toArray rfl ?_; intro W1 hW; have K1 := Lib.hid (Blk.newL (L := [Value.int .i64 pr] ++ ([Value.bool od] ++ (U ++ (N ++ (T))))) hW List.toList_toArray); have HB1 := Lib.hid hW.bel; clear hW)
    | (refine wpList_box_new rfl _ _ rfl ([Value.int .i64 prq] ++ ([Value.bool odq] ++ (Uq ++ (Nq ++ (Tq))))).toArray rfl ?_; intro W2 hW; have Kq := Lib.hid (Blk.newL (L := [Value.int .i64 prq] ++ ([Value.bool odq] ++ (Uq ++ (Nq ++ (Tq))))) hW List.toList_toArray); have Kp := Lib.hid (K1.out.on hW.bel); have HBb := Lib.hid (bthen HB1.out hW.bel); clear hW K1 HB1))
  try go_frame
  have a0 := cell_of_range ((HSP.out _ _ Kp.out.rg).1)
  have c0 := cell_of_range ((HSQ.out _ _ Kq.out.rg).1)
  have a1 := cell_of_range ((HSP.out _ _ Kp.out.rg).2.1)
  have c1 := cell_of_range ((HSQ.out _ _ Kq.out.rg).2.1)
  try (apply wp_seq_k; intro K_ HK_)
  apply wp_region_lit
  cases b0
  · have g0 := h0.out
    go_wp2_with fail
    go_ret
    exact ⟨by rfl, HBb.out⟩
  have g0 := h0.out
  cases b1
  · have g1 := h1.out
    go_wp2_with fail
    go_ret
    exact ⟨by rfl, HBb.out⟩
  have g1 := h1.out
  repeat (fail_if_success (show Oper.wp _ ⟨some 19, _, _, _, _, _⟩ _ _ _ _)
          first | go_values | go_skip | go_guarded | go_step | go_upon)
  refine wp_load_mid _ _ rfl w.heap.size 2 rfl U _ (HSP.out _ _ Kp.out.rg).2.2.1 Tryz.underlying35 rfl (by rw [lU.out]; kernel_rfl) ?_
  repeat (fail_if_success (show Oper.wp _ ⟨some 21, _, _, _, _, _⟩ _ _ _ _)
          first | go_values | go_skip | go_guarded | go_step | go_upon)
  refine wp_load_mid _ _ rfl W1.heap.size 2 rfl Uq _ (HSQ.out _ _ Kq.out.rg).2.2.1 Tryz.underlying35 rfl (by rw [lUq.out]; kernel_rfl) ?_
  go_wp2_with fail
  refine (h2.out _ HBb.out).mono ?_
  rintro e V1 ⟨rfl, hb⟩
  have Kp1 := Lib.hid (Kp.out.on hb)
  have Kq1 := Lib.hid (Kq.out.on hb)
  have HB_1 := Lib.hid (bthen HBb.out hb)
  clear hb
  dsimp only
  cases b2
  · go_wp2_with fail
    go_ret
    exact ⟨by rfl, HB_1.out⟩
  repeat (fail_if_success (show Oper.wp _ ⟨some 26, _, _, _, _, _⟩ _ _ _ _)
          first | go_values | go_skip | go_guarded | go_step | go_upon)
  refine wp_load_mid _ _ rfl w.heap.size 50 rfl N _ (HSP.out _ _ Kp1.out.rg).2.2.2.1 Tryz.underlying55 rfl (by rw [lN.out]; kernel_rfl) ?_
  repeat (fail_if_success (show Oper.wp _ ⟨some 28, _, _, _, _, _⟩ _ _ _ _)
          first | go_values | go_skip | go_guarded | go_step | go_upon)
  refine wp_load_mid _ _ rfl W1.heap.size 50 rfl Nq _ (HSQ.out _ _ Kq1.out.rg).2.2.2.1 Tryz.underlying55 rfl (by rw [lNq.out]; kernel_rfl) ?_
  go_wp2_with fail
  refine (h3.out _ HB_1.out).mono ?_
  rintro e V2 ⟨rfl, hb⟩
  have Kp2 := Lib.hid (Kp1.out.on hb)
  have Kq2 := Lib.hid (Kq1.out.on hb)
  have HB_2 := Lib.hid (bthen HB_1.out hb)
  clear hb
  dsimp only
  cases b3
  · go_wp2_with fail
    go_ret
    exact ⟨by rfl, HB_2.out⟩
  repeat (fail_if_success (show Oper.wp _ ⟨some 33, _, _, _, _, _⟩ _ _ _ _)
          first | go_values | go_skip | go_guarded | go_step | go_upon)
  refine wp_load_mid _ _ rfl w.heap.size 115 rfl T _ (HSP.out _ _ Kp2.out.rg).2.2.2.2 Tryz.underlying59 rfl (by rw [lT.out]; kernel_rfl) ?_
  repeat (fail_if_success (show Oper.wp _ ⟨some 35, _, _, _, _, _⟩ _ _ _ _)
          first | go_values | go_skip | go_guarded | go_step | go_upon)
  refine wp_load_mid _ _ rfl W1.heap.size 115 rfl Tq _ (HSQ.out _ _ Kq2.out.rg).2.2.2.2 Tryz.underlying59 rfl (by rw [lTq.out]; kernel_rfl) ?_
  go_wp2_with fail
  refine (h4.out _ HB_2.out).mono ?_
  rintro e V3 ⟨rfl, hb⟩
  have Kp3 := Lib.hid (Kp2.out.on hb)
  have Kq3 := Lib.hid (Kq2.out.on hb)
  have HB_3 := Lib.hid (bthen HB_2.out hb)
  clear hb
  dsimp only
  go_wp2_with fail
  go_ret
  exact ⟨by rfl, HB_3.out⟩
end Go.Proofs.YtafkadhijljmkaaGreat
