/- Structs compared part by part. Printed by genchain.py. -/
import Derived.Test.YtafkadhijljmkaaGreatChn
namespace Go.Proofs.YtafkadhijljmkaaGreat
set_option linter.unusedVariables false
open Go.RowKit

set_option maxRecDepth 8000 in
set_option maxHeartbeats 400000 in
theorem sameNmea_go {kd kdq : Int} {tk tkq : ByteArray} {G Gq : List Value} {R Rq : List Value} {A Aq : List Value} {V Vq : List Value} {U Uq : List Value} {b0 : Bool} {b1 : Bool} {b2 : Bool} {b3 : Bool} {b4 : Bool} {b5 : Bool} {b6 : Bool} {w : World} (lG : Hid (G.length = 22)) (lGq : Hid (Gq.length = 22)) (lR : Hid (R.length = 20)) (lRq : Hid (Rq.length = 20)) (lA : Hid (A.length = 9)) (lAq : Hid (Aq.length = 9)) (lV : Hid (V.length = 8)) (lVq : Hid (Vq.length = 8)) (lU : Hid (U.length = 4)) (lUq : Hid (Uq.length = 4)) (h0 : Hid ((kd == kdq) = b0)) (h1 : Hid ((tk.toList == tkq.toList) = b1)) (h2 : Hid (∀ W, (binOp .eql 41 (.agg G.toArray) (.agg Gq.toArray)).run Tryz.prog W = .ok (.bool b2) W)) (h3 : Hid (∀ W, (binOp .eql 45 (.agg R.toArray) (.agg Rq.toArray)).run Tryz.prog W = .ok (.bool b3) W)) (h4 : Hid (∀ W, (binOp .eql 50 (.agg V.toArray) (.agg Vq.toArray)).run Tryz.prog W = .ok (.bool b4) W)) (h5 : Hid (∀ W, Below w.heap.size w W → Calls Tryz.prog 30 #[.agg A.toArray, .agg Aq.toArray] W fun e w' => e = .returned (.bool b5) ∧ Below W.heap.size W w')) (h6 : Hid (∀ W, Below w.heap.size w W → Calls Tryz.prog 31 #[.agg U.toArray, .agg Uq.toArray] W fun e w' => e = .returned (.bool b6) ∧ Below W.heap.size W w')) :
    Calls Tryz.prog 17 #[.agg ([Value.int .i64 kd] ++ ([Value.string tk] ++ (G ++ (R ++ (A ++ (V ++ (U))))))).toArray, .agg ([Value.int .i64 kdq] ++ ([Value.string tkq] ++ (Gq ++ (Rq ++ (Aq ++ (Vq ++ (Uq))))))).toArray] w fun e w' => e = .returned (.bool (b0 && (b1 && (b2 && (b3 && (b4 && (b5 && (b6)))))))) ∧ Below w.heap.size w w' := by
  have SP : ∀ (W : World) (b : Nat), W.rangeAt b 0 ([Value.int .i64 kd] ++ ([Value.string tk] ++ (G ++ (R ++ (A ++ (V ++ (U))))))) → W.rangeAt b 0 ([Value.int .i64 kd]) ∧ W.rangeAt b 1 ([Value.string tk]) ∧ W.rangeAt b 2 (G) ∧ W.rangeAt b 24 (R) ∧ W.rangeAt b 44 (A) ∧ W.rangeAt b 53 (V) ∧ W.rangeAt b 61 (U) := fun W b h => by
    obtain ⟨r0, s0⟩ := rg_split h (n := 1) rfl
    obtain ⟨r1, s1⟩ := rg_split s0 (n := 1) rfl
    obtain ⟨r2, s2⟩ := rg_split s1 (n := 22) lG.out
    obtain ⟨r3, s3⟩ := rg_split s2 (n := 20) lR.out
    obtain ⟨r4, s4⟩ := rg_split s3 (n := 9) lA.out
    obtain ⟨r5, s5⟩ := rg_split s4 (n := 8) lV.out
    exact ⟨r0, r1, r2, r3, r4, r5, s5⟩
  have SQ : ∀ (W : World) (b : Nat), W.rangeAt b 0 ([Value.int .i64 kdq] ++ ([Value.string tkq] ++ (Gq ++ (Rq ++ (Aq ++ (Vq ++ (Uq))))))) → W.rangeAt b 0 ([Value.int .i64 kdq]) ∧ W.rangeAt b 1 ([Value.string tkq]) ∧ W.rangeAt b 2 (Gq) ∧ W.rangeAt b 24 (Rq) ∧ W.rangeAt b 44 (Aq) ∧ W.rangeAt b 53 (Vq) ∧ W.rangeAt b 61 (Uq) := fun W b h => by
    obtain ⟨r0, s0⟩ := rg_split h (n := 1) rfl
    obtain ⟨r1, s1⟩ := rg_split s0 (n := 1) rfl
    obtain ⟨r2, s2⟩ := rg_split s1 (n := 22) lGq.out
    obtain ⟨r3, s3⟩ := rg_split s2 (n := 20) lRq.out
    obtain ⟨r4, s4⟩ := rg_split s3 (n := 9) lAq.out
    obtain ⟨r5, s5⟩ := rg_split s4 (n := 8) lVq.out
    exact ⟨r0, r1, r2, r3, r4, r5, s5⟩
  have HSP := Lib.hid SP
  have HSQ := Lib.hid SQ
  clear SP SQ
  go_enter Tryz.func17, Tryz.ntmps17
  go_upto_region 1 with (first
    | (refine wpList_box_new rfl _ _ rfl ([Value.int .i64 kd] ++ ([Value.string tk] ++ (G ++ (R ++ (A ++ (V ++ (U))))))).toArray rfl ?_; intro W1 hW; have K1 := Lib.hid (Blk.newL (L := [Value.int .i64 kd] ++ ([Value.string tk] ++ (G ++ (R ++ (A ++ (V ++ (U))))))) hW List.toList_toArray); have HB1 := Lib.hid hW.bel; clear hW)
    | (refine wpList_box_new rfl _ _ rfl ([Value.int .i64 kdq] ++ ([Value.string tkq] ++ (Gq ++ (Rq ++ (Aq ++ (Vq ++ (Uq))))))).toArray rfl ?_; intro W2 hW; have Kq := Lib.hid (Blk.newL (L := [Value.int .i64 kdq] ++ ([Value.string tkq] ++ (Gq ++ (Rq ++ (Aq ++ (Vq ++ (Uq))))))) hW List.toList_toArray); have Kp := Lib.hid (K1.out.on hW.bel); have HBb := Lib.hid (bthen HB1.out hW.bel); clear hW K1 HB1))
  try go_frame
  have a0 := cell_of_range ((HSP.out _ _ Kp.out.rg).1)
  have c0 := cell_of_range ((HSQ.out _ _ Kq.out.rg).1)
  have a1 := cell_of_range ((HSP.out _ _ Kp.out.rg).2.1)
  have c1 := cell_of_range ((HSQ.out _ _ Kq.out.rg).2.1)
  try (apply wp_seq_k; intro K_ HK_)
  apply wp_region_lit
  cases b0
  · have g0 := h0.out
    go_wp2_with fail
    go_ret
    exact ⟨by rfl, HBb.out⟩
  have g0 := h0.out
  cases b1
  · have g1 := h1.out
    go_wp2_with fail
    go_ret
    exact ⟨by rfl, HBb.out⟩
  have g1 := h1.out
  repeat (fail_if_success (show Oper.wp _ ⟨some 19, _, _, _, _, _⟩ _ _ _ _)
          first | go_values | go_skip | go_guarded | go_step | go_upon)
  refine wp_load_mid _ _ rfl w.heap.size 2 rfl G _ (HSP.out _ _ Kp.out.rg).2.2.1 Tryz.underlying41 rfl (by rw [lG.out]; kernel_rfl) ?_
  repeat (fail_if_success (show Oper.wp _ ⟨some 21, _, _, _, _, _⟩ _ _ _ _)
          first | go_values | go_skip | go_guarded | go_step | go_upon)
  refine wp_load_mid _ _ rfl W1.heap.size 2 rfl Gq _ (HSQ.out _ _ Kq.out.rg).2.2.1 Tryz.underlying41 rfl (by rw [lGq.out]; kernel_rfl) ?_
  go_step
  go_simp
  go_guarded
  refine wp_binopE .eql 41 (.tmp 19) (.tmp 21) 41 (by kernel_rfl) (u := .agg G.toArray) (v := .agg Gq.toArray) (by kernel_rfl) (by kernel_rfl) (by kernel_rfl) (h2.out _) ?_
  cases b2
  · go_wp2_with fail
    go_ret
    exact ⟨by rfl, HBb.out⟩
  repeat (fail_if_success (show Oper.wp _ ⟨some 26, _, _, _, _, _⟩ _ _ _ _)
          first | go_values | go_skip | go_guarded | go_step | go_upon)
  refine wp_load_mid _ _ rfl w.heap.size 24 rfl R _ (HSP.out _ _ Kp.out.rg).2.2.2.1 Tryz.underlying45 rfl (by rw [lR.out]; kernel_rfl) ?_
  repeat (fail_if_success (show Oper.wp _ ⟨some 28, _, _, _, _, _⟩ _ _ _ _)
          first | go_values | go_skip | go_guarded | go_step | go_upon)
  refine wp_load_mid _ _ rfl W1.heap.size 24 rfl Rq _ (HSQ.out _ _ Kq.out.rg).2.2.2.1 Tryz.underlying45 rfl (by rw [lRq.out]; kernel_rfl) ?_
  go_step
  go_simp
  go_guarded
  refine wp_binopE .eql 45 (.tmp 26) (.tmp 28) 45 (by kernel_rfl) (u := .agg R.toArray) (v := .agg Rq.toArray) (by kernel_rfl) (by kernel_rfl) (by kernel_rfl) (h3.out _) ?_
  cases b3
  · go_wp2_with fail
    go_ret
    exact ⟨by rfl, HBb.out⟩
  repeat (fail_if_success (show Oper.wp _ ⟨some 33, _, _, _, _, _⟩ _ _ _ _)
          first | go_values | go_skip | go_guarded | go_step | go_upon)
  refine wp_load_mid _ _ rfl w.heap.size 53 rfl V _ (HSP.out _ _ Kp.out.rg).2.2.2.2.2.1 Tryz.underlying50 rfl (by rw [lV.out]; kernel_rfl) ?_
  repeat (fail_if_success (show Oper.wp _ ⟨some 35, _, _, _, _, _⟩ _ _ _ _)
          first | go_values | go_skip | go_guarded | go_step | go_upon)
  refine wp_load_mid _ _ rfl W1.heap.size 53 rfl Vq _ (HSQ.out _ _ Kq.out.rg).2.2.2.2.2.1 Tryz.underlying50 rfl (by rw [lVq.out]; kernel_rfl) ?_
  go_step
  go_simp
  go_guarded
  refine wp_binopE .eql 50 (.tmp 33) (.tmp 35) 50 (by kernel_rfl) (u := .agg V.toArray) (v := .agg Vq.toArray) (by kernel_rfl) (by kernel_rfl) (by kernel_rfl) (h4.out _) ?_
  cases b4
  · go_wp2_with fail
    go_ret
    exact ⟨by rfl, HBb.out⟩
  repeat (fail_if_success (show Oper.wp _ ⟨some 40, _, _, _, _, _⟩ _ _ _ _)
          first | go_values | go_skip | go_guarded | go_step | go_upon)
  refine wp_load_mid _ _ rfl w.heap.size 44 rfl A _ (HSP.out _ _ Kp.out.rg).2.2.2.2.1 Tryz.underlying48 rfl (by rw [lA.out]; kernel_rfl) ?_
  repeat (fail_if_success (show Oper.wp _ ⟨some 42, _, _, _, _, _⟩ _ _ _ _)
          first | go_values | go_skip | go_guarded | go_step | go_upon)
  refine wp_load_mid _ _ rfl W1.heap.size 44 rfl Aq _ (HSQ.out _ _ Kq.out.rg).2.2.2.2.1 Tryz.underlying48 rfl (by rw [lAq.out]; kernel_rfl) ?_
  go_wp2_with fail
  refine (h5.out _ HBb.out).mono ?_
  rintro e V1 ⟨rfl, hb⟩
  have Kp1 := Lib.hid (Kp.out.on hb)
  have Kq1 := Lib.hid (Kq.out.on hb)
  have HB_1 := Lib.hid (bthen HBb.out hb)
  clear hb
  dsimp only
  cases b5
  · go_wp2_with fail
    go_ret
    exact ⟨by rfl, HB_1.out⟩
  repeat (fail_if_success (show Oper.wp _ ⟨some 47, _, _, _, _, _⟩ _ _ _ _)
          first | go_values | go_skip | go_guarded | go_step | go_upon)
  refine wp_load_mid _ _ rfl w.heap.size 61 rfl U _ (HSP.out _ _ Kp1.out.rg).2.2.2.2.2.2 Tryz.underlying53 rfl (by rw [lU.out]; kernel_rfl) ?_
  repeat (fail_if_success (show Oper.wp _ ⟨some 49, _, _, _, _, _⟩ _ _ _ _)
          first | go_values | go_skip | go_guarded | go_step | go_upon)
  refine wp_load_mid _ _ rfl W1.heap.size 61 rfl Uq _ (HSQ.out _ _ Kq1.out.rg).2.2.2.2.2.2 Tryz.underlying53 rfl (by rw [lUq.out]; kernel_rfl) ?_
  go_wp2_with fail
  refine (h6.out _ HB_1.out).mono ?_
  rintro e V2 ⟨rfl, hb⟩
  have Kp2 := Lib.hid (Kp1.out.on hb)
  have Kq2 := Lib.hid (Kq1.out.on hb)
  have HB_2 := Lib.hid (bthen HB_1.out hb)
  clear hb
  dsimp only
  go_wp2_with fail
  go_ret
  exact ⟨by rfl, HB_2.out⟩
set_option maxRecDepth 8000 in
set_option maxHeartbeats 400000 in
theorem r30Same_chn {kd kdq : Int} {tk tkq : ByteArray} {G Gq : List Value} {R Rq : List Value} {A Aq : List Value} {V Vq : List Value} {U Uq : List Value} {b0 : Bool} {b1 : Bool} {b2 : Bool} {b3 : Bool} {b4 : Bool} {b5 : Bool} {b6 : Bool} {w : World} (lG : Hid (G.length = 22)) (lGq : Hid (Gq.length = 22)) (lR : Hid (R.length = 20)) (lRq : Hid (Rq.length = 20)) (lA : Hid (A.length = 9)) (lAq : Hid (Aq.length = 9)) (lV : Hid (V.length = 8)) (lVq : Hid (Vq.length = 8)) (lU : Hid (U.length = 4)) (lUq : Hid (Uq.length = 4)) (h0 : Hid ((kd == kdq) = b0)) (h1 : Hid ((tk.toList == tkq.toList) = b1)) (h2 : Hid (∀ W, (binOp .eql 41 (.agg G.toArray) (.agg Gq.toArray)).run Tryz.prog W = .ok (.bool b2) W)) (h3 : Hid (∀ W, (binOp .eql 45 (.agg R.toArray) (.agg Rq.toArray)).run Tryz.prog W = .ok (.bool b3) W)) (h4 : Hid (∀ W, Below w.heap.size w W → Calls Tryz.prog 35 #[.agg A.toArray, .agg Aq.toArray] W fun e w' => e = .returned (.bool b4) ∧ Below W.heap.size W w')) (h5 : Hid (∀ W, (binOp .eql 50 (.agg V.toArray) (.agg Vq.toArray)).run Tryz.prog W = .ok (.bool b5) W)) (h6 : Hid (∀ W, Below w.heap.size w W → Calls Tryz.prog 36 #[.agg U.toArray, .agg Uq.toArray] W fun e w' => e = .returned (.bool b6) ∧ Below W.heap.size W w')) :
    Calls Tryz.prog 20 #[.agg ([Value.int .i64 kd] ++ ([Value.string tk] ++ (G ++ (R ++ (A ++ (V ++ (U))))))).toArray, .agg ([Value.int .i64 kdq] ++ ([Value.string tkq] ++ (Gq ++ (Rq ++ (Aq ++ (Vq ++ (Uq))))))).toArray] w fun e w' => e = .returned (.bool (b0 && (b1 && (b2 && (b3 && (b4 && (b5 && (b6)))))))) ∧ Below w.heap.size w w' := by
  have SP : ∀ (W : World) (b : Nat), W.rangeAt b 0 ([Value.int .i64 kd] ++ ([Value.string tk] ++ (G ++ (R ++ (A ++ (V ++ (U))))))) → W.rangeAt b 0 ([Value.int .i64 kd]) ∧ W.rangeAt b 1 ([Value.string tk]) ∧ W.rangeAt b 2 (G) ∧ W.rangeAt b 24 (R) ∧ W.rangeAt b 44 (A) ∧ W.rangeAt b 53 (V) ∧ W.rangeAt b 61 (U) := fun W b h => by
    obtain ⟨r0, s0⟩ := rg_split h (n := 1) rfl
    obtain ⟨r1, s1⟩ := rg_split s0 (n := 1) rfl
    obtain ⟨r2, s2⟩ := rg_split s1 (n := 22) lG.out
    obtain ⟨r3, s3⟩ := rg_split s2 (n := 20) lR.out
    obtain ⟨r4, s4⟩ := rg_split s3 (n := 9) lA.out
    obtain ⟨r5, s5⟩ := rg_split s4 (n := 8) lV.out
    exact ⟨r0, r1, r2, r3, r4, r5, s5⟩
  have SQ : ∀ (W : World) (b : Nat), W.rangeAt b 0 ([Value.int .i64 kdq] ++ ([Value.string tkq] ++ (Gq ++ (Rq ++ (Aq ++ (Vq ++ (Uq))))))) → W.rangeAt b 0 ([Value.int .i64 kdq]) ∧ W.rangeAt b 1 ([Value.string tkq]) ∧ W.rangeAt b 2 (Gq) ∧ W.rangeAt b 24 (Rq) ∧ W.rangeAt b 44 (Aq) ∧ W.rangeAt b 53 (Vq) ∧ W.rangeAt b 61 (Uq) := fun W b h => by
    obtain ⟨r0, s0⟩ := rg_split h (n := 1) rfl
    obtain ⟨r1, s1⟩ := rg_split s0 (n := 1) rfl
    obtain ⟨r2, s2⟩ := rg_split s1 (n := 22) lGq.out
    obtain ⟨r3, s3⟩ := rg_split s2 (n := 20) lRq.out
    obtain ⟨r4, s4⟩ := rg_split s3 (n := 9) lAq.out
    obtain ⟨r5, s5⟩ := rg_split s4 (n := 8) lVq.out
    exact ⟨r0, r1, r2, r3, r4, r5, s5⟩
  have HSP := Lib.hid SP
  have HSQ := Lib.hid SQ
  clear SP SQ
  go_enter Tryz.func20, Tryz.ntmps20
  go_upto_region 1 with (first
    | (refine wpList_box_new rfl _ _ rfl ([Value.int .i64 kd] ++ ([Value.string tk] ++ (G ++ (R ++ (A ++ (V ++ (U))))))).toArray rfl ?_; intro W1 hW; have K1 := Lib.hid (Blk.newL (L := [Value.int .i64 kd] ++ ([Value.string tk] ++ (G ++ (R ++ (A ++ (V ++ (U))))))) hW List.toList_toArray); have HB1 := Lib.hid hW.bel; clear hW)
    | (refine wpList_box_new rfl _ _ rfl ([Value.int .i64 kdq] ++ ([Value.string tkq] ++ (Gq ++ (Rq ++ (Aq ++ (Vq ++ (Uq))))))).toArray rfl ?_; intro W2 hW; have Kq := Lib.hid (Blk.newL (L := [Value.int .i64 kdq] ++ ([Value.string tkq] ++ (Gq ++ (Rq ++ (Aq ++ (Vq ++ (Uq))))))) hW List.toList_toArray); have Kp := Lib.hid (K1.out.on hW.bel); have HBb := Lib.hid (bthen HB1.out hW.bel); clear hW K1 HB1))
  try go_frame
  have a0 := cell_of_range ((HSP.out _ _ Kp.out.rg).1)
  have c0 := cell_of_range ((HSQ.out _ _ Kq.out.rg).1)
  have a1 := cell_of_range ((HSP.out _ _ Kp.out.rg).2.1)
  have c1 := cell_of_range ((HSQ.out _ _ Kq.out.rg).2.1)
  try (apply wp_seq_k; intro K_ HK_)
  apply wp_region_lit
  cases b0
  · have g0 := h0.out
    go_wp2_with fail
    go_ret
    exact ⟨by rfl, HBb.out⟩
  have g0 := h0.out
  cases b1
  · have g1 := h1.out
    go_wp2_with fail
    go_ret
    exact ⟨by rfl, HBb.out⟩
  have g1 := h1.out
  repeat (fail_if_success (show Oper.wp _ ⟨some 19, _, _, _, _, _⟩ _ _ _ _)
          first | go_values | go_skip | go_guarded | go_step | go_upon)
  refine wp_load_mid _ _ rfl w.heap.size 2 rfl G _ (HSP.out _ _ Kp.out.rg).2.2.1 Tryz.underlying41 rfl (by rw [lG.out]; kernel_rfl) ?_
  repeat (fail_if_success (show Oper.wp _ ⟨some 21, _, _, _, _, _⟩ _ _ _ _)
          first | go_values | go_skip | go_guarded | go_step | go_upon)
  refine wp_load_mid _ _ rfl W1.heap.size 2 rfl Gq _ (HSQ.out _ _ Kq.out.rg).2.2.1 Tryz.underlying41 rfl (by rw [lGq.out]; kernel_rfl) ?_
  go_step
  go_simp
  go_guarded
  refine wp_binopE .eql 41 (.tmp 19) (.tmp 21) 41 (by kernel_rfl) (u := .agg G.toArray) (v := .agg Gq.toArray) (by kernel_rfl) (by kernel_rfl) (by kernel_rfl) (h2.out _) ?_
  cases b2
  · go_wp2_with fail
    go_ret
    exact ⟨by rfl, HBb.out⟩
  repeat (fail_if_success (show Oper.wp _ ⟨some 26, _, _, _, _, _⟩ _ _ _ _)
          first | go_values | go_skip | go_guarded | go_step | go_upon)
  refine wp_load_mid _ _ rfl w.heap.size 24 rfl R _ (HSP.out _ _ Kp.out.rg).2.2.2.1 Tryz.underlying45 rfl (by rw [lR.out]; kernel_rfl) ?_
  repeat (fail_if_success (show Oper.wp _ ⟨some 28, _, _, _, _, _⟩ _ _ _ _)
          first | go_values | go_skip | go_guarded | go_step | go_upon)
  refine wp_load_mid _ _ rfl W1.heap.size 24 rfl Rq _ (HSQ.out _ _ Kq.out.rg).2.2.2.1 Tryz.underlying45 rfl (by rw [lRq.out]; kernel_rfl) ?_
  go_step
  go_simp
  go_guarded
  refine wp_binopE .eql 45 (.tmp 26) (.tmp 28) 45 (by kernel_rfl) (u := .agg R.toArray) (v := .agg Rq.toArray) (by kernel_rfl) (by kernel_rfl) (by kernel_rfl) (h3.out _) ?_
  cases b3
  · go_wp2_with fail
    go_ret
    exact ⟨by rfl, HBb.out⟩
  repeat (fail_if_success (show Oper.wp _ ⟨some 33, _, _, _, _, _⟩ _ _ _ _)
          first | go_values | go_skip | go_guarded | go_step | go_upon)
  refine wp_load_mid _ _ rfl w.heap.size 44 rfl A _ (HSP.out _ _ Kp.out.rg).2.2.2.2.1 Tryz.underlying48 rfl (by rw [lA.out]; kernel_rfl) ?_
  repeat (fail_if_success (show Oper.wp _ ⟨some 35, _, _, _, _, _⟩ _ _ _ _)
          first | go_values | go_skip | go_guarded | go_step | go_upon)
  refine wp_load_mid _ _ rfl W1.heap.size 44 rfl Aq _ (HSQ.out _ _ Kq.out.rg).2.2.2.2.1 Tryz.underlying48 rfl (by rw [lAq.out]; kernel_rfl) ?_
  go_wp2_with fail
  refine (h4.out _ HBb.out).mono ?_
  rintro e V1 ⟨rfl, hb⟩
  have Kp1 := Lib.hid (Kp.out.on hb)
  have Kq1 := Lib.hid (Kq.out.on hb)
  have HB_1 := Lib.hid (bthen HBb.out hb)
  clear hb
  dsimp only
  cases b4
  · go_wp2_with fail
    go_ret
    exact ⟨by rfl, HB_1.out⟩
  repeat (fail_if_success (show Oper.wp _ ⟨some 40, _, _, _, _, _⟩ _ _ _ _)
          first | go_values | go_skip | go_guarded | go_step | go_upon)
  refine wp_load_mid _ _ rfl w.heap.size 53 rfl V _ (HSP.out _ _ Kp1.out.rg).2.2.2.2.2.1 Tryz.underlying50 rfl (by rw [lV.out]; kernel_rfl) ?_
  repeat (fail_if_success (show Oper.wp _ ⟨some 42, _, _, _, _, _⟩ _ _ _ _)
          first | go_values | go_skip | go_guarded | go_step | go_upon)
  refine wp_load_mid _ _ rfl W1.heap.size 53 rfl Vq _ (HSQ.out _ _ Kq1.out.rg).2.2.2.2.2.1 Tryz.underlying50 rfl (by rw [lVq.out]; kernel_rfl) ?_
  go_step
  go_simp
  go_guarded
  refine wp_binopE .eql 50 (.tmp 40) (.tmp 42) 50 (by kernel_rfl) (u := .agg V.toArray) (v := .agg Vq.toArray) (by kernel_rfl) (by kernel_rfl) (by kernel_rfl) (h5.out _) ?_
  cases b5
  · go_wp2_with fail
    go_ret
    exact ⟨by rfl, HB_1.out⟩
  repeat (fail_if_success (show Oper.wp _ ⟨some 47, _, _, _, _, _⟩ _ _ _ _)
          first | go_values | go_skip | go_guarded | go_step | go_upon)
  refine wp_load_mid _ _ rfl w.heap.size 61 rfl U _ (HSP.out _ _ Kp1.out.rg).2.2.2.2.2.2 Tryz.underlying53 rfl (by rw [lU.out]; kernel_rfl) ?_
  repeat (fail_if_success (show Oper.wp _ ⟨some 49, _, _, _, _, _⟩ _ _ _ _)
          first | go_values | go_skip | go_guarded | go_step | go_upon)
  refine wp_load_mid _ _ rfl W1.heap.size 61 rfl Uq _ (HSQ.out _ _ Kq1.out.rg).2.2.2.2.2.2 Tryz.underlying53 rfl (by rw [lUq.out]; kernel_rfl) ?_
  go_wp2_with fail
  refine (h6.out _ HB_1.out).mono ?_
  rintro e V2 ⟨rfl, hb⟩
  have Kp2 := Lib.hid (Kp1.out.on hb)
  have Kq2 := Lib.hid (Kq1.out.on hb)
  have HB_2 := Lib.hid (bthen HB_1.out hb)
  clear hb
  dsimp only
  go_wp2_with fail
  go_ret
  exact ⟨by rfl, HB_2.out⟩
end Go.Proofs.YtafkadhijljmkaaGreat
