/- Structs compared part by part. Printed by genchain.py. -/
import Derived.Test.YtafkadhijljmkaaGreatChn
namespace Go.Proofs.YtafkadhijljmkaaGreat
set_option linter.unusedVariables false
open Go.RowKit

set_option maxRecDepth 8000 in
set_option maxHeartbeats 400000 in
theorem sameUbx_go {kd kdq : Int} {P Pq : List Value} {tw twq : Int} {ss ssq : Value} {D Dq : List Value} {A Aq : List Value} {ly lyq : Int} {sp spq : Value} {b0 : Bool} {b1 : Bool} {b2 : Bool} {b3 : Bool} {b4 : Bool} {b5 : Bool} {b6 : Bool} {b7 : Bool} {w : World} (lP : Hid (P.length = 32)) (lPq : Hid (Pq.length = 32)) (lD : Hid (D.length = 8)) (lDq : Hid (Dq.length = 8)) (lA : Hid (A.length = 3)) (lAq : Hid (Aq.length = 3)) (h0 : Hid ((kd == kdq) = b0)) (h1 : Hid (∀ W, (binOp .eql 23 (.agg P.toArray) (.agg Pq.toArray)).run Tryz.prog W = .ok (.bool b1) W)) (h2 : Hid (∀ W, (binOp .eql 28 (.agg D.toArray) (.agg Dq.toArray)).run Tryz.prog W = .ok (.bool b2) W)) (h3 : Hid (∀ W, (binOp .eql 30 (.agg A.toArray) (.agg Aq.toArray)).run Tryz.prog W = .ok (.bool b3) W)) (h4 : Hid ((tw == twq) = b4)) (h5 : Hid (∀ W, Below w.heap.size w W → Calls Tryz.prog 28 #[ss, ssq] W fun e w' => e = .returned (.bool b5) ∧ Below W.heap.size W w')) (h6 : Hid ((ly == lyq) = b6)) (h7 : Hid (∀ W, Below w.heap.size w W → Calls Tryz.prog 29 #[sp, spq] W fun e w' => e = .returned (.bool b7) ∧ Below W.heap.size W w')) :
    Calls Tryz.prog 16 #[.agg ([Value.int .i64 kd] ++ (P ++ ([Value.int .i64 tw] ++ ([ss] ++ (D ++ (A ++ ([Value.int .i64 ly] ++ ([sp])))))))).toArray, .agg ([Value.int .i64 kdq] ++ (Pq ++ ([Value.int .i64 twq] ++ ([ssq] ++ (Dq ++ (Aq ++ ([Value.int .i64 lyq] ++ ([spq])))))))).toArray] w fun e w' => e = .returned (.bool (b0 && (b1 && (b2 && (b3 && (b4 && (b5 && (b6 && (b7))))))))) ∧ Below w.heap.size w w' := by
  have SP : ∀ (W : World) (b : Nat), W.rangeAt b 0 ([Value.int .i64 kd] ++ (P ++ ([Value.int .i64 tw] ++ ([ss] ++ (D ++ (A ++ ([Value.int .i64 ly] ++ ([sp])))))))) → W.rangeAt b 0 ([Value.int .i64 kd]) ∧ W.rangeAt b 1 (P) ∧ W.rangeAt b 33 ([Value.int .i64 tw]) ∧ W.rangeAt b 34 ([ss]) ∧ W.rangeAt b 35 (D) ∧ W.rangeAt b 43 (A) ∧ W.rangeAt b 46 ([Value.int .i64 ly]) ∧ W.rangeAt b 47 ([sp]) := fun W b h => by
    obtain ⟨r0, s0⟩ := rg_split h (n := 1) rfl
    obtain ⟨r1, s1⟩ := rg_split s0 (n := 32) lP.out
    obtain ⟨r2, s2⟩ := rg_split s1 (n := 1) rfl
    obtain ⟨r3, s3⟩ := rg_split s2 (n := 1) rfl
    obtain ⟨r4, s4⟩ := rg_split s3 (n := 8) lD.out
    obtain ⟨r5, s5⟩ := rg_split s4 (n := 3) lA.out
    obtain ⟨r6, s6⟩ := rg_split s5 (n := 1) rfl
    exact ⟨r0, r1, r2, r3, r4, r5, r6, s6⟩
  have SQ : ∀ (W : World) (b : Nat), W.rangeAt b 0 ([Value.int .i64 kdq] ++ (Pq ++ ([Value.int .i64 twq] ++ ([ssq] ++ (Dq ++ (Aq ++ ([Value.int .i64 lyq] ++ ([spq])))))))) → W.rangeAt b 0 ([Value.int .i64 kdq]) ∧ W.rangeAt b 1 (Pq) ∧ W.rangeAt b 33 ([Value.int .i64 twq]) ∧ W.rangeAt b 34 ([ssq]) ∧ W.rangeAt b 35 (Dq) ∧ W.rangeAt b 43 (Aq) ∧ W.rangeAt b 46 ([Value.int .i64 lyq]) ∧ W.rangeAt b 47 ([spq]) := fun W b h => by
    obtain ⟨r0, s0⟩ := rg_split h (n := 1) rfl
    obtain ⟨r1, s1⟩ := rg_split s0 (n := 32) lPq.out
    obtain ⟨r2, s2⟩ := rg_split s1 (n := 1) rfl
    obtain ⟨r3, s3⟩ := rg_split s2 (n := 1) rfl
    obtain ⟨r4, s4⟩ := rg_split s3 (n := 8) lDq.out
    obtain ⟨r5, s5⟩ := rg_split s4 (n := 3) lAq.out
    obtain ⟨r6, s6⟩ := rg_split s5 (n := 1) rfl
    exact ⟨r0, r1, r2, r3, r4, r5, r6, s6⟩
  have HSP := Lib.hid SP
  have HSQ := Lib.hid SQ
  clear SP SQ
  go_enter Tryz.func16, Tryz.ntmps16
  go_upto_region 1 with (first
    | (refine wpList_box_new rfl _ _ rfl ([Value.int .i64 kd] ++ (P ++ ([Value.int .i64 tw] ++ ([ss] ++ (D ++ (A ++ ([Value.int .i64 ly] ++ ([sp])))))))).toArray rfl ?_; intro W1 hW; have K1 := Lib.hid (Blk.newL (L := [Value.int .i64 kd] ++ (P ++ ([Value.int .i64 tw] ++ ([ss] ++ (D ++ (A ++ ([Value.int .i64 ly] ++ ([sp])))))))) hW List.toList_toArray); have HB1 := Lib.hid hW.bel; clear hW)
    | (refine wpList_box_new rfl _ _ rfl ([Value.int .i64 kdq] ++ (Pq ++ ([Value.int .i64 twq] ++ ([ssq] ++ (Dq ++ (Aq ++ ([Value.int .i64 lyq] ++ ([spq])))))))).toArray rfl ?_; intro W2 hW; have Kq := Lib.hid (Blk.newL (L := [Value.int .i64 kdq] ++ (Pq ++ ([Value.int .i64 twq] ++ ([ssq] ++ (Dq ++ (Aq ++ ([Value.int .i64 lyq] ++ ([spq])))))))) hW List.toList_toArray); have Kp := Lib.hid (K1.out.on hW.bel); have HBb := Lib.hid (bthen HB1.out hW.bel); clear hW K1 HB1))
  try go_frame
  have a0 := cell_of_range ((HSP.out _ _ Kp.out.rg).1)
  have c0 := cell_of_range ((HSQ.out _ _ Kq.out.rg).1)
  have a2 := cell_of_range ((HSP.out _ _ Kp.out.rg).2.2.1)
  have c2 := cell_of_range ((HSQ.out _ _ Kq.out.rg).2.2.1)
  have a3 := cell_of_range ((HSP.out _ _ Kp.out.rg).2.2.2.1)
  have c3 := cell_of_range ((HSQ.out _ _ Kq.out.rg).2.2.2.1)
  have a6 := cell_of_range ((HSP.out _ _ Kp.out.rg).2.2.2.2.2.2.1)
  have c6 := cell_of_range ((HSQ.out _ _ Kq.out.rg).2.2.2.2.2.2.1)
  have a7 := cell_of_range ((HSP.out _ _ Kp.out.rg).2.2.2.2.2.2.2)
  have c7 := cell_of_range ((HSQ.out _ _ Kq.out.rg).2.2.2.2.2.2.2)
  try (apply wp_seq_k; intro K_ HK_)
  apply wp_region_lit
  cases b0
  · have g0 := h0.out
    go_wp2_with fail
    go_ret
    exact ⟨by rfl, HBb.out⟩
  have g0 := h0.out
  repeat (fail_if_success (show Oper.wp _ ⟨some 12, _, _, _, _, _⟩ _ _ _ _)
          first | go_values | go_skip | go_guarded | go_step | go_upon)
  refine wp_load_mid _ _ rfl w.heap.size 1 rfl P _ (HSP.out _ _ Kp.out.rg).2.1 Tryz.underlying23 rfl (by rw [lP.out]; kernel_rfl) ?_
  repeat (fail_if_success (show Oper.wp _ ⟨some 14, _, _, _, _, _⟩ _ _ _ _)
          first | go_values | go_skip | go_guarded | go_step | go_upon)
  refine wp_load_mid _ _ rfl W1.heap.size 1 rfl Pq _ (HSQ.out _ _ Kq.out.rg).2.1 Tryz.underlying23 rfl (by rw [lPq.out]; kernel_rfl) ?_
  go_step
  go_simp
  go_guarded
  refine wp_binopE .eql 23 (.tmp 12) (.tmp 14) 23 (by kernel_rfl) (u := .agg P.toArray) (v := .agg Pq.toArray) (by kernel_rfl) (by kernel_rfl) (by kernel_rfl) (h1.out _) ?_
  cases b1
  · go_wp2_with fail
    go_ret
    exact ⟨by rfl, HBb.out⟩
  repeat (fail_if_success (show Oper.wp _ ⟨some 19, _, _, _, _, _⟩ _ _ _ _)
          first | go_values | go_skip | go_guarded | go_step | go_upon)
  refine wp_load_mid _ _ rfl w.heap.size 35 rfl D _ (HSP.out _ _ Kp.out.rg).2.2.2.2.1 Tryz.underlying28 rfl (by rw [lD.out]; kernel_rfl) ?_
  repeat (fail_if_success (show Oper.wp _ ⟨some 21, _, _, _, _, _⟩ _ _ _ _)
          first | go_values | go_skip | go_guarded | go_step | go_upon)
  refine wp_load_mid _ _ rfl W1.heap.size 35 rfl Dq _ (HSQ.out _ _ Kq.out.rg).2.2.2.2.1 Tryz.underlying28 rfl (by rw [lDq.out]; kernel_rfl) ?_
  go_step
  go_simp
  go_guarded
  refine wp_binopE .eql 28 (.tmp 19) (.tmp 21) 28 (by kernel_rfl) (u := .agg D.toArray) (v := .agg Dq.toArray) (by kernel_rfl) (by kernel_rfl) (by kernel_rfl) (h2.out _) ?_
  cases b2
  · go_wp2_with fail
    go_ret
    exact ⟨by rfl, HBb.out⟩
  repeat (fail_if_success (show Oper.wp _ ⟨some 26, _, _, _, _, _⟩ _ _ _ _)
          first | go_values | go_skip | go_guarded | go_step | go_upon)
  refine wp_load_mid _ _ rfl w.heap.size 43 rfl A _ (HSP.out _ _ Kp.out.rg).2.2.2.2.2.1 Tryz.underlying30 rfl (by rw [lA.out]; kernel_rfl) ?_
  repeat (fail_if_success (show Oper.wp _ ⟨some 28, _, _, _, _, _⟩ _ _ _ _)
          first | go_values | go_skip | go_guarded | go_step | go_upon)
  refine wp_load_mid _ _ rfl W1.heap.size 43 rfl Aq _ (HSQ.out _ _ Kq.out.rg).2.2.2.2.2.1 Tryz.underlying30 rfl (by rw [lAq.out]; kernel_rfl) ?_
  go_step
  go_simp
  go_guarded
  refine wp_binopE .eql 30 (.tmp 26) (.tmp 28) 30 (by kernel_rfl) (u := .agg A.toArray) (v := .agg Aq.toArray) (by kernel_rfl) (by kernel_rfl) (by kernel_rfl) (h3.out _) ?_
  cases b3
  · go_wp2_with fail
    go_ret
    exact ⟨by rfl, HBb.out⟩
  cases b4
  · have g4 := h4.out
    go_wp2_with fail
    go_ret
    exact ⟨by rfl, HBb.out⟩
  have g4 := h4.out
  go_wp2_with fail
  refine (h5.out _ HBb.out).mono ?_
  rintro e V1 ⟨rfl, hb⟩
  have Kp1 := Lib.hid (Kp.out.on hb)
  have Kq1 := Lib.hid (Kq.out.on hb)
  have HB_1 := Lib.hid (bthen HBb.out hb)
  clear hb
  have a6 := cell_of_range ((HSP.out _ _ Kp1.out.rg).2.2.2.2.2.2.1)
  have c6 := cell_of_range ((HSQ.out _ _ Kq1.out.rg).2.2.2.2.2.2.1)
  have a7 := cell_of_range ((HSP.out _ _ Kp1.out.rg).2.2.2.2.2.2.2)
  have c7 := cell_of_range ((HSQ.out _ _ Kq1.out.rg).2.2.2.2.2.2.2)
  dsimp only
  cases b5
  · go_wp2_with fail
    go_ret
    exact ⟨by rfl, HB_1.out⟩
  cases b6
  · have g6 := h6.out
    go_wp2_with fail
    go_ret
    exact ⟨by rfl, HB_1.out⟩
  have g6 := h6.out
  go_wp2_with fail
  refine (h7.out _ HB_1.out).mono ?_
  rintro e V2 ⟨rfl, hb⟩
  have Kp2 := Lib.hid (Kp1.out.on hb)
  have Kq2 := Lib.hid (Kq1.out.on hb)
  have HB_2 := Lib.hid (bthen HB_1.out hb)
  clear hb
  dsimp only
  go_wp2_with fail
  go_ret
  exact ⟨by rfl, HB_2.out⟩
set_option maxRecDepth 8000 in
set_option maxHeartbeats 400000 in
theorem r21Same_go {kd kdq : Int} {P Pq : List Value} {Z Zq : List Value} {D Dq : List Value} {A Aq : List Value} {Y Yq : List Value} {b0 : Bool} {b1 : Bool} {b2 : Bool} {b3 : Bool} {b4 : Bool} {b5 : Bool} {w : World} (lP : Hid (P.length = 32)) (lPq : Hid (Pq.length = 32)) (lZ : Hid (Z.length = 2)) (lZq : Hid (Zq.length = 2)) (lD : Hid (D.length = 8)) (lDq : Hid (Dq.length = 8)) (lA : Hid (A.length = 3)) (lAq : Hid (Aq.length = 3)) (lY : Hid (Y.length = 2)) (lYq : Hid (Yq.length = 2)) (h0 : Hid ((kd == kdq) = b0)) (h1 : Hid (∀ W, (binOp .eql 23 (.agg P.toArray) (.agg Pq.toArray)).run Tryz.prog W = .ok (.bool b1) W)) (h2 : Hid (∀ W, Below w.heap.size w W → Calls Tryz.prog 33 #[.agg Z.toArray, .agg Zq.toArray] W fun e w' => e = .returned (.bool b2) ∧ Below W.heap.size W w')) (h3 : Hid (∀ W, (binOp .eql 28 (.agg D.toArray) (.agg Dq.toArray)).run Tryz.prog W = .ok (.bool b3) W)) (h4 : Hid (∀ W, (binOp .eql 30 (.agg A.toArray) (.agg Aq.toArray)).run Tryz.prog W = .ok (.bool b4) W)) (h5 : Hid (∀ W, Below w.heap.size w W → Calls Tryz.prog 34 #[.agg Y.toArray, .agg Yq.toArray] W fun e w' => e = .returned (.bool b5) ∧ Below W.heap.size W w')) :
    Calls Tryz.prog 19 #[.agg ([Value.int .i64 kd] ++ (P ++ (Z ++ (D ++ (A ++ (Y)))))).toArray, .agg ([Value.int .i64 kdq] ++ (Pq ++ (Zq ++ (Dq ++ (Aq ++ (Yq)))))).toArray] w fun e w' => e = .returned (.bool (b0 && (b1 && (b2 && (b3 && (b4 && (b5))))))) ∧ Below w.heap.size w w' := by
  have SP : ∀ (W : World) (b : Nat), W.rangeAt b 0 ([Value.int .i64 kd] ++ (P ++ (Z ++ (D ++ (A ++ (Y)))))) → W.rangeAt b 0 ([Value.int .i64 kd]) ∧ W.rangeAt b 1 (P) ∧ W.rangeAt b 33 (Z) ∧ W.rangeAt b 35 (D) ∧ W.rangeAt b 43 (A) ∧ W.rangeAt b 46 (Y) := fun W b h => by
    obtain ⟨r0, s0⟩ := rg_split h (n := 1) rfl
    obtain ⟨r1, s1⟩ := rg_split s0 (n := 32) lP.out
    obtain ⟨r2, s2⟩ := rg_split s1 (n := 2) lZ.out
    obtain ⟨r3, s3⟩ := rg_split s2 (n := 8) lD.out
    obtain ⟨r4, s4⟩ := rg_split s3 (n := 3) lA.out
    exact ⟨r0, r1, r2, r3, r4, s4⟩
  have SQ : ∀ (W : World) (b : Nat), W.rangeAt b 0 ([Value.int .i64 kdq] ++ (Pq ++ (Zq ++ (Dq ++ (Aq ++ (Yq)))))) → W.rangeAt b 0 ([Value.int .i64 kdq]) ∧ W.rangeAt b 1 (Pq) ∧ W.rangeAt b 33 (Zq) ∧ W.rangeAt b 35 (Dq) ∧ W.rangeAt b 43 (Aq) ∧ W.rangeAt b 46 (Yq) := fun W b h => by
    obtain ⟨r0, s0⟩ := rg_split h (n := 1) rfl
    obtain ⟨r1, s1⟩ := rg_split s0 (n := 32) lPq.out
    obtain ⟨r2, s2⟩ := rg_split s1 (n := 2) lZq.out
    obtain ⟨r3, s3⟩ := rg_split s2 (n := 8) lDq.out
    obtain ⟨r4, s4⟩ := rg_split s3 (n := 3) lAq.out
    exact ⟨r0, r1, r2, r3, r4, s4⟩
  have HSP := Lib.hid SP
  have HSQ := Lib.hid SQ
  clear SP SQ
  go_enter Tryz.func19, Tryz.ntmps19
  go_upto_region 1 with (first
    | (refine wpList_box_new rfl _ _ rfl ([Value.int .i64 kd] ++ (P ++ (Z ++ (D ++ (A ++ (Y)))))).toArray rfl ?_; intro W1 hW; have K1 := Lib.hid (Blk.newL (L := [Value.int .i64 kd] ++ (P ++ (Z ++ (D ++ (A ++ (Y)))))) hW List.toList_toArray); have HB1 := Lib.hid hW.bel; clear hW)
    | (refine wpList_box_new rfl _ _ rfl ([Value.int .i64 kdq] ++ (Pq ++ (Zq ++ (Dq ++ (Aq ++ (Yq)))))).toArray rfl ?_; intro W2 hW; have Kq := Lib.hid (Blk.newL (L := [Value.int .i64 kdq] ++ (Pq ++ (Zq ++ (Dq ++ (Aq ++ (Yq)))))) hW List.toList_toArray); have Kp := Lib.hid (K1.out.on hW.bel); have HBb := Lib.hid (bthen HB1.out hW.bel); clear hW K1 HB1))
  try go_frame
  have a0 := cell_of_range ((HSP.out _ _ Kp.out.rg).1)
  have c0 := cell_of_range ((HSQ.out _ _ Kq.out.rg).1)
  try (apply wp_seq_k; intro K_ HK_)
  apply wp_region_lit
  cases b0
  · have g0 := h0.out
    go_wp2_with fail
    go_ret
    exact ⟨by rfl, HBb.out⟩
  have g0 := h0.out
  repeat (fail_if_success (show Oper.wp _ ⟨some 12, _, _, _, _, _⟩ _ _ _ _)
          first | go_values | go_skip | go_guarded | go_step | go_upon)
  refine wp_load_mid _ _ rfl w.heap.size 1 rfl P _ (HSP.out _ _ Kp.out.rg).2.1 Tryz.underlying23 rfl (by rw [lP.out]; kernel_rfl) ?_
  repeat (fail_if_success (show Oper.wp _ ⟨some 14, _, _, _, _, _⟩ _ _ _ _)
          first | go_values | go_skip | go_guarded | go_step | go_upon)
  refine wp_load_mid _ _ rfl W1.heap.size 1 rfl Pq _ (HSQ.out _ _ Kq.out.rg).2.1 Tryz.underlying23 rfl (by rw [lPq.out]; kernel_rfl) ?_
  go_step
  go_simp
  go_guarded
  refine wp_binopE .eql 23 (.tmp 12) (.tmp 14) 23 (by kernel_rfl) (u := .agg P.toArray) (v := .agg Pq.toArray) (by kernel_rfl) (by kernel_rfl) (by kernel_rfl) (h1.out _) ?_
  cases b1
  · go_wp2_with fail
    go_ret
    exact ⟨by rfl, HBb.out⟩
  repeat (fail_if_success (show Oper.wp _ ⟨some 19, _, _, _, _, _⟩ _ _ _ _)
          first | go_values | go_skip | go_guarded | go_step | go_upon)
  refine wp_load_mid _ _ rfl w.heap.size 33 rfl Z _ (HSP.out _ _ Kp.out.rg).2.2.1 Tryz.underlying26 rfl (by rw [lZ.out]; kernel_rfl) ?_
  repeat (fail_if_success (show Oper.wp _ ⟨some 21, _, _, _, _, _⟩ _ _ _ _)
          first | go_values | go_skip | go_guarded | go_step | go_upon)
  refine wp_load_mid _ _ rfl W1.heap.size 33 rfl Zq _ (HSQ.out _ _ Kq.out.rg).2.2.1 Tryz.underlying26 rfl (by rw [lZq.out]; kernel_rfl) ?_
  go_wp2_with fail
  refine (h2.out _ HBb.out).mono ?_
  rintro e V1 ⟨rfl, hb⟩
  have Kp1 := Lib.hid (Kp.out.on hb)
  have Kq1 := Lib.hid (Kq.out.on hb)
  have HB_1 := Lib.hid (bthen HBb.out hb)
  clear hb
  dsimp only
  cases b2
  · go_wp2_with fail
    go_ret
    exact ⟨by rfl, HB_1.out⟩
  repeat (fail_if_success (show Oper.wp _ ⟨some 26, _, _, _, _, _⟩ _ _ _ _)
          first | go_values | go_skip | go_guarded | go_step | go_upon)
  refine wp_load_mid _ _ rfl w.heap.size 35 rfl D _ (HSP.out _ _ Kp1.out.rg).2.2.2.1 Tryz.underlying28 rfl (by rw [lD.out]; kernel_rfl) ?_
  repeat (fail_if_success (show Oper.wp _ ⟨some 28, _, _, _, _, _⟩ _ _ _ _)
          first | go_values | go_skip | go_guarded | go_step | go_upon)
  refine wp_load_mid _ _ rfl W1.heap.size 35 rfl Dq _ (HSQ.out _ _ Kq1.out.rg).2.2.2.1 Tryz.underlying28 rfl (by rw [lDq.out]; kernel_rfl) ?_
  go_step
  go_simp
  go_guarded
  refine wp_binopE .eql 28 (.tmp 26) (.tmp 28) 28 (by kernel_rfl) (u := .agg D.toArray) (v := .agg Dq.toArray) (by kernel_rfl) (by kernel_rfl) (by kernel_rfl) (h3.out _) ?_
  cases b3
  · go_wp2_with fail
    go_ret
    exact ⟨by rfl, HB_1.out⟩
  repeat (fail_if_success (show Oper.wp _ ⟨some 33, _, _, _, _, _⟩ _ _ _ _)
          first | go_values | go_skip | go_guarded | go_step | go_upon)
  refine wp_load_mid _ _ rfl w.heap.size 43 rfl A _ (HSP.out _ _ Kp1.out.rg).2.2.2.2.1 Tryz.underlying30 rfl (by rw [lA.out]; kernel_rfl) ?_
  repeat (fail_if_success (show Oper.wp _ ⟨some 35, _, _, _, _, _⟩ _ _ _ _)
          first | go_values | go_skip | go_guarded | go_step | go_upon)
  refine wp_load_mid _ _ rfl W1.heap.size 43 rfl Aq _ (HSQ.out _ _ Kq1.out.rg).2.2.2.2.1 Tryz.underlying30 rfl (by rw [lAq.out]; kernel_rfl) ?_
  go_step
  go_simp
  go_guarded
  refine wp_binopE .eql 30 (.tmp 33) (.tmp 35) 30 (by kernel_rfl) (u := .agg A.toArray) (v := .agg Aq.toArray) (by kernel_rfl) (by kernel_rfl) (by kernel_rfl) (h4.out _) ?_
  cases b4
  · go_wp2_with fail
    go_ret
    exact ⟨by rfl, HB_1.out⟩
  repeat (fail_if_success (show Oper.wp _ ⟨some 40, _, _, _, _, _⟩ _ _ _ _)
          first | go_values | go_skip | go_guarded | go_step | go_upon)
  refine wp_load_mid _ _ rfl w.heap.size 46 rfl Y _ (HSP.out _ _ Kp1.out.rg).2.2.2.2.2 Tryz.underlying33 rfl (by rw [lY.out]; kernel_rfl) ?_
  repeat (fail_if_success (show Oper.wp _ ⟨some 42, _, _, _, _, _⟩ _ _ _ _)
          first | go_values | go_skip | go_guarded | go_step | go_upon)
  refine wp_load_mid _ _ rfl W1.heap.size 46 rfl Yq _ (HSQ.out _ _ Kq1.out.rg).2.2.2.2.2 Tryz.underlying33 rfl (by rw [lYq.out]; kernel_rfl) ?_
  go_wp2_with fail
  refine (h5.out _ HB_1.out).mono ?_
  rintro e V2 ⟨rfl, hb⟩
  have Kp2 := Lib.hid (Kp1.out.on hb)
  have Kq2 := Lib.hid (Kq1.out.on hb)
  have HB_2 := Lib.hid (bthen HB_1.out hb)
  clear hb
  dsimp only
  go_wp2_with fail
  go_ret
  exact ⟨by rfl, HB_2.out⟩
end Go.Proofs.YtafkadhijljmkaaGreat
