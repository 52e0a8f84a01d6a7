/- Structs compared part by part. Printed by genchain.py. -/
import Derived.Test.YtafkadhijljmkaaGreatEqt
namespace Go.Proofs.YtafkadhijljmkaaGreat
set_option linter.unusedVariables false
open Go.RowKit

theorem rg_split {w : World} {b o n : Nat} {A B : List Value} (h : w.rangeAt b o (A ++ B)) (hn : A.length = n) : w.rangeAt b o A ∧ w.rangeAt b (o + n) B := by
  subst hn
  exact World.rangeAt_append.1 h
theorem cell_of_range {w : World} {b o : Nat} {v : Value} (h : w.rangeAt b o [v]) : w.cell? ⟨b, o, none⟩ = some v := h 0 v rfl
set_option maxRecDepth 8000 in
set_option maxHeartbeats 400000 in
theorem sameTlm_go {sq sqq : Int} {sy syq : Int} {cm cmq : Int} {id idq : Int} {vs vsq : Value} {b0 : Bool} {b1 : Bool} {b2 : Bool} {b3 : Bool} {b4 : Bool} {w : World} (h0 : Hid ((sq == sqq) = b0)) (h1 : Hid ((sy == syq) = b1)) (h2 : Hid ((cm == cmq) = b2)) (h3 : Hid ((id == idq) = b3)) (h4 : Hid (∀ W, Below w.heap.size w W → Calls Tryz.prog 32 #[vs, vsq] W fun e w' => e = .returned (.bool b4) ∧ Below W.heap.size W w')) :
    Calls Tryz.prog 18 #[.agg ([Value.int .i64 sq] ++ ([Value.int .i64 sy] ++ ([Value.int .i64 cm] ++ ([Value.int .i64 id] ++ ([vs]))))).toArray, .agg ([Value.int .i64 sqq] ++ ([Value.int .i64 syq] ++ ([Value.int .i64 cmq] ++ ([Value.int .i64 idq] ++ ([vsq]))))).toArray] w fun e w' => e = .returned (.bool (b0 && (b1 && (b2 && (b3 && (b4)))))) ∧ Below w.heap.size w w' := by
  have SP : ∀ (W : World) (b : Nat), W.rangeAt b 0 ([Value.int .i64 sq] ++ ([Value.int .i64 sy] ++ ([Value.int .i64 cm] ++ ([Value.int .i64 id] ++ ([vs]))))) → W.rangeAt b 0 ([Value.int .i64 sq]) ∧ W.rangeAt b 1 ([Value.int .i64 sy]) ∧ W.rangeAt b 2 ([Value.int .i64 cm]) ∧ W.rangeAt b 3 ([Value.int .i64 id]) ∧ W.rangeAt b 4 ([vs]) := fun W b h => by
    obtain ⟨r0, s0⟩ := rg_split h (n := 1) rfl
    obtain ⟨r1, s1⟩ := rg_split s0 (n := 1) rfl
    obtain ⟨r2, s2⟩ := rg_split s1 (n := 1) rfl
    obtain ⟨r3, s3⟩ := rg_split s2 (n := 1) rfl
    exact ⟨r0, r1, r2, r3, s3⟩
  have SQ : ∀ (W : World) (b : Nat), W.rangeAt b 0 ([Value.int .i64 sqq] ++ ([Value.int .i64 syq] ++ ([Value.int .i64 cmq] ++ ([Value.int .i64 idq] ++ ([vsq]))))) → W.rangeAt b 0 ([Value.int .i64 sqq]) ∧ W.rangeAt b 1 ([Value.int .i64 syq]) ∧ W.rangeAt b 2 ([Value.int .i64 cmq]) ∧ W.rangeAt b 3 ([Value.int .i64 idq]) ∧ W.rangeAt b 4 ([vsq]) := fun W b h => by
    obtain ⟨r0, s0⟩ := rg_split h (n := 1) rfl
    obtain ⟨r1, s1⟩ := rg_split s0 (n := 1) rfl
    obtain ⟨r2, s2⟩ := rg_split s1 (n := 1) rfl
    obtain ⟨r3, s3⟩ := rg_split s2 (n := 1) rfl
    exact ⟨r0, r1, r2, r3, s3⟩
  have HSP := Lib.hid SP
  have HSQ := Lib.hid SQ
  clear SP SQ
  go_enter Tryz.func18, Tryz.ntmps18
  go_upto_region 1 with (first
    | (refine wpList_box_new rfl _ _ rfl ([Value.int .i64 sq] ++ ([Value.int .i64 sy] ++ ([Value.int .i64 cm] ++ ([Value.int .i64 id] ++ ([vs]))))).toArray rfl ?_; intro W1 hW; have K1 := Lib.hid (Blk.newL (L := [Value.int .i64 sq] ++ ([Value.int .i64 sy] ++ ([Value.int .i64 cm] ++ ([Value.int .i64 id] ++ ([vs]))))) hW List.toList_toArray); have HB1 := Lib.hid hW.bel; clear hW)
    | (refine wpList_box_new rfl _ _ rfl ([Value.int .i64 sqq] ++ ([Value.int .i64 syq] ++ ([Value.int .i64 cmq] ++ ([Value.int .i64 idq] ++ ([vsq]))))).toArray rfl ?_; intro W2 hW; have Kq := Lib.hid (Blk.newL (L := [Value.int .i64 sqq] ++ ([Value.int .i64 syq] ++ ([Value.int .i64 cmq] ++ ([Value.int .i64 idq] ++ ([vsq]))))) hW List.toList_toArray); have Kp := Lib.hid (K1.out.on hW.bel); have HBb := Lib.hid (bthen HB1.out hW.bel); clear hW K1 HB1))
  try go_frame
  have a0 := cell_of_range ((HSP.out _ _ Kp.out.rg).1)
  have c0 := cell_of_range ((HSQ.out _ _ Kq.out.rg).1)
  have a1 := cell_of_range ((HSP.out _ _ Kp.out.rg).2.1)
  have c1 := cell_of_range ((HSQ.out _ _ Kq.out.rg).2.1)
  have a2 := cell_of_range ((HSP.out _ _ Kp.out.rg).2.2.1)
  have c2 := cell_of_range ((HSQ.out _ _ Kq.out.rg).2.2.1)
  have a3 := cell_of_range ((HSP.out _ _ Kp.out.rg).2.2.2.1)
  have c3 := cell_of_range ((HSQ.out _ _ Kq.out.rg).2.2.2.1)
  have a4 := cell_of_range ((HSP.out _ _ Kp.out.rg).2.2.2.2)
  have c4 := cell_of_range ((HSQ.out _ _ Kq.out.rg).2.2.2.2)
  try (apply wp_seq_k; intro K_ HK_)
  apply wp_region_lit
  cases b0
  · have g0 := h0.out
    go_wp2_with fail
    go_ret
    exact ⟨by rfl, HBb.out⟩
  have g0 := h0.out
  cases b1
  · have g1 := h1.out
    go_wp2_with fail
    go_ret
    exact ⟨by rfl, HBb.out⟩
  have g1 := h1.out
  cases b2
  · have g2 := h2.out
    go_wp2_with fail
    go_ret
    exact ⟨by rfl, HBb.out⟩
  have g2 := h2.out
  cases b3
  · have g3 := h3.out
    go_wp2_with fail
    go_ret
    exact ⟨by rfl, HBb.out⟩
  have g3 := h3.out
  go_wp2_with fail
  refine (h4.out _ HBb.out).mono ?_
  rintro e V1 ⟨rfl, hb⟩
  have Kp1 := Lib.hid (Kp.out.on hb)
  have Kq1 := Lib.hid (Kq.out.on hb)
  have HB_1 := Lib.hid (bthen HBb.out hb)
  clear hb
  dsimp only
  go_wp2_with fail
  go_ret
  exact ⟨by rfl, HB_1.out⟩
set_option maxRecDepth 8000 in
set_option maxHeartbeats 400000 in
theorem r32Same_go {sq sqq : Int} {sy syq : Int} {cm cmq : Int} {id idq : Int} {vs vsq : Value} {b0 : Bool} {b1 : Bool} {b2 : Bool} {b3 : Bool} {b4 : Bool} {w : World} (h0 : Hid ((sq == sqq) = b0)) (h1 : Hid ((sy == syq) = b1)) (h2 : Hid ((cm == cmq) = b2)) (h3 : Hid ((id == idq) = b3)) (h4 : Hid (∀ W, Below w.heap.size w W → Calls Tryz.prog 37 #[vs, vsq] W fun e w' => e = .returned (.bool b4) ∧ Below W.heap.size W w')) :
    Calls Tryz.prog 21 #[.agg ([Value.int .i64 sq] ++ ([Value.int .i64 sy] ++ ([Value.int .i64 cm] ++ ([Value.int .i64 id] ++ ([vs]))))).toArray, .agg ([Value.int .i64 sqq] ++ ([Value.int .i64 syq] ++ ([Value.int .i64 cmq] ++ ([Value.int .i64 idq] ++ ([vsq]))))).toArray] w fun e w' => e = .returned (.bool (b0 && (b1 && (b2 && (b3 && (b4)))))) ∧ Below w.heap.size w w' := by
  have SP : ∀ (W : World) (b : Nat), W.rangeAt b 0 ([Value.int .i64 sq] ++ ([Value.int .i64 sy] ++ ([Value.int .i64 cm] ++ ([Value.int .i64 id] ++ ([vs]))))) → W.rangeAt b 0 ([Value.int .i64 sq]) ∧ W.rangeAt b 1 ([Value.int .i64 sy]) ∧ W.rangeAt b 2 ([Value.int .i64 cm]) ∧ W.rangeAt b 3 ([Value.int .i64 id]) ∧ W.rangeAt b 4 ([vs]) := fun W b h => by
    obtain ⟨r0, s0⟩ := rg_split h (n := 1) rfl
    obtain ⟨r1, s1⟩ := rg_split s0 (n := 1) rfl
    obtain ⟨r2, s2⟩ := rg_split s1 (n := 1) rfl
    obtain ⟨r3, s3⟩ := rg_split s2 (n := 1) rfl
    exact ⟨r0, r1, r2, r3, s3⟩
  have SQ : ∀ (W : World) (b : Nat), W.rangeAt b 0 ([Value.int .i64 sqq] ++ ([Value.int .i64 syq] ++ ([Value.int .i64 cmq] ++ ([Value.int .i64 idq] ++ ([vsq]))))) → W.rangeAt b 0 ([Value.int .i64 sqq]) ∧ W.rangeAt b 1 ([Value.int .i64 syq]) ∧ W.rangeAt b 2 ([Value.int .i64 cmq]) ∧ W.rangeAt b 3 ([Value.int .i64 idq]) ∧ W.rangeAt b 4 ([vsq]) := fun W b h => by
    obtain ⟨r0, s0⟩ := rg_split h (n := 1) rfl
    obtain ⟨r1, s1⟩ := rg_split s0 (n := 1) rfl
    obtain ⟨r2, s2⟩ := rg_split s1 (n := 1) rfl
    obtain ⟨r3, s3⟩ := rg_split s2 (n := 1) rfl
    exact ⟨r0, r1, r2, r3, s3⟩
  have HSP := Lib.hid SP
  have HSQ := Lib.hid SQ
  clear SP SQ
  go_enter Tryz.func21, Tryz.ntmps21
  go_upto_region 1 with (first
    | (refine wpList_box_new rfl _ _ rfl ([Value.int .i64 sq] ++ ([Value.int .i64 sy] ++ ([Value.int .i64 cm] ++ ([Value.int .i64 id] ++ ([vs]))))).toArray rfl ?_; intro W1 hW; have K1 := Lib.hid (Blk.newL (L := [Value.int .i64 sq] ++ ([Value.int .i64 sy] ++ ([Value.int .i64 cm] ++ ([Value.int .i64 id] ++ ([vs]))))) hW List.toList_toArray); have HB1 := Lib.hid hW.bel; clear hW)
    | (refine wpList_box_new rfl _ _ rfl ([Value.int .i64 sqq] ++ ([Value.int .i64 syq] ++ ([Value.int .i64 cmq] ++ ([Value.int .i64 idq] ++ ([vsq]))))).toArray rfl ?_; intro W2 hW; have Kq := Lib.hid (Blk.newL (L := [Value.int .i64 sqq] ++ ([Value.int .i64 syq] ++ ([Value.int .i64 cmq] ++ ([Value.int .i64 idq] ++ ([vsq]))))) hW List.toList_toArray); have Kp := Lib.hid (K1.out.on hW.bel); have HBb := Lib.hid (bthen HB1.out hW.bel); clear hW K1 HB1))
  try go_frame
  have a0 := cell_of_range ((HSP.out _ _ Kp.out.rg).1)
  have c0 := cell_of_range ((HSQ.out _ _ Kq.out.rg).1)
  have a1 := cell_of_range ((HSP.out _ _ Kp.out.rg).2.1)
  have c1 := cell_of_range ((HSQ.out _ _ Kq.out.rg).2.1)
  have a2 := cell_of_range ((HSP.out _ _ Kp.out.rg).2.2.1)
  have c2 := cell_of_range ((HSQ.out _ _ Kq.out.rg).2.2.1)
  have a3 := cell_of_range ((HSP.out _ _ Kp.out.rg).2.2.2.1)
  have c3 := cell_of_range ((HSQ.out _ _ Kq.out.rg).2.2.2.1)
  have a4 := cell_of_range ((HSP.out _ _ Kp.out.rg).2.2.2.2)
  have c4 := cell_of_range ((HSQ.out _ _ Kq.out.rg).2.2.2.2)
  try (apply wp_seq_k; intro K_ HK_)
  apply wp_region_lit
  cases b0
  · have g0 := h0.out
    go_wp2_with fail
    go_ret
    exact ⟨by rfl, HBb.out⟩
  have g0 := h0.out
  cases b1
  · have g1 := h1.out
    go_wp2_with fail
    go_ret
    exact ⟨by rfl, HBb.out⟩
  have g1 := h1.out
  cases b2
  · have g2 := h2.out
    go_wp2_with fail
    go_ret
    exact ⟨by rfl, HBb.out⟩
  have g2 := h2.out
  cases b3
  · have g3 := h3.out
    go_wp2_with fail
    go_ret
    exact ⟨by rfl, HBb.out⟩
  have g3 := h3.out
  go_wp2_with fail
  refine (h4.out _ HBb.out).mono ?_
  rintro e V1 ⟨rfl, hb⟩
  have Kp1 := Lib.hid (Kp.out.on hb)
  have Kq1 := Lib.hid (Kq.out.on hb)
  have HB_1 := Lib.hid (bthen HBb.out hb)
  clear hb
  dsimp only
  go_wp2_with fail
  go_ret
  exact ⟨by rfl, HB_1.out⟩
set_option maxRecDepth 8000 in
set_option maxHeartbeats 400000 in
theorem sameGsv_go {T Tq : Int} {N Nq : Int} {S Sq : Int} {ls lsq : Value} {b0 : Bool} {b1 : Bool} {b2 : Bool} {b3 : Bool} {w : World} (h0 : Hid ((T == Tq) = b0)) (h1 : Hid ((N == Nq) = b1)) (h2 : Hid ((S == Sq) = b2)) (h3 : Hid (∀ W, Below w.heap.size w W → Calls Tryz.prog 50 #[ls, lsq] W fun e w' => e = .returned (.bool b3) ∧ Below W.heap.size W w')) :
    Calls Tryz.prog 31 #[.agg ([Value.int .i64 T] ++ ([Value.int .i64 N] ++ ([Value.int .i64 S] ++ ([ls])))).toArray, .agg ([Value.int .i64 Tq] ++ ([Value.int .i64 Nq] ++ ([Value.int .i64 Sq] ++ ([lsq])))).toArray] w fun e w' => e = .returned (.bool (b0 && (b1 && (b2 && (b3))))) ∧ Below w.heap.size w w' := by
  have SP : ∀ (W : World) (b : Nat), W.rangeAt b 0 ([Value.int .i64 T] ++ ([Value.int .i64 N] ++ ([Value.int .i64 S] ++ ([ls])))) → W.rangeAt b 0 ([Value.int .i64 T]) ∧ W.rangeAt b 1 ([Value.int .i64 N]) ∧ W.rangeAt b 2 ([Value.int .i64 S]) ∧ W.rangeAt b 3 ([ls]) := fun W b h => by
    obtain ⟨r0, s0⟩ := rg_split h (n := 1) rfl
    obtain ⟨r1, s1⟩ := rg_split s0 (n := 1) rfl
    obtain ⟨r2, s2⟩ := rg_split s1 (n := 1) rfl
    exact ⟨r0, r1, r2, s2⟩
  have SQ : ∀ (W : World) (b : Nat), W.rangeAt b 0 ([Value.int .i64 Tq] ++ ([Value.int .i64 Nq] ++ ([Value.int .i64 Sq] ++ ([lsq])))) → W.rangeAt b 0 ([Value.int .i64 Tq]) ∧ W.rangeAt b 1 ([Value.int .i64 Nq]) ∧ W.rangeAt b 2 ([Value.int .i64 Sq]) ∧ W.rangeAt b 3 ([lsq]) := fun W b h => by
    obtain ⟨r0, s0⟩ := rg_split h (n := 1) rfl
    obtain ⟨r1, s1⟩ := rg_split s0 (n := 1) rfl
    obtain ⟨r2, s2⟩ := rg_split s1 (n := 1) rfl
    exact ⟨r0, r1, r2, s2⟩
  have HSP := Lib.hid SP
  have HSQ := Lib.hid SQ
  clear SP SQ
  go_enter Tryz.func31, Tryz.ntmps31
  go_upto_region 1 with (first
    | (refine wpList_box_new rfl _ _ rfl ([Value.int .i64 T] ++ ([Value.int .i64 N] ++ ([Value.int .i64 S] ++ ([ls])))).toArray rfl ?_; intro W1 hW; have K1 := Lib.hid (Blk.newL (L := [Value.int .i64 T] ++ ([Value.int .i64 N] ++ ([Value.int .i64 S] ++ ([ls])))) hW List.toList_toArray); have HB1 := Lib.hid hW.bel; clear hW)
    | (refine wpList_box_new rfl _ _ rfl ([Value.int .i64 Tq] ++ ([Value.int .i64 Nq] ++ ([Value.int .i64 Sq] ++ ([lsq])))).toArray rfl ?_; intro W2 hW; have Kq := Lib.hid (Blk.newL (L := [Value.int .i64 Tq] ++ ([Value.int .i64 Nq] ++ ([Value.int .i64 Sq] ++ ([lsq])))) hW List.toList_toArray); have Kp := Lib.hid (K1.out.on hW.bel); have HBb := Lib.hid (bthen HB1.out hW.bel); clear hW K1 HB1))
  try go_frame
  have a0 := cell_of_range ((HSP.out _ _ Kp.out.rg).1)
  have c0 := cell_of_range ((HSQ.out _ _ Kq.out.rg).1)
  have a1 := cell_of_range ((HSP.out _ _ Kp.out.rg).2.1)
  have c1 := cell_of_range ((HSQ.out _ _ Kq.out.rg).2.1)
  have a2 := cell_of_range ((HSP.out _ _ Kp.out.rg).2.2.1)
  have c2 := cell_of_range ((HSQ.out _ _ Kq.out.rg).2.2.1)
  have a3 := cell_of_range ((HSP.out _ _ Kp.out.rg).2.2.2)
  have c3 := cell_of_range ((HSQ.out _ _ Kq.out.rg).2.2.2)
  try (apply wp_seq_k; intro K_ HK_)
  apply wp_region_lit
  cases b0
  · have g0 := h0.out
    go_wp2_with fail
    go_ret
    exact ⟨by rfl, HBb.out⟩
  have g0 := h0.out
  cases b1
  · have g1 := h1.out
    go_wp2_with fail
    go_ret
    exact ⟨by rfl, HBb.out⟩
  have g1 := h1.out
  cases b2
  · have g2 := h2.out
    go_wp2_with fail
    go_ret
    exact ⟨by rfl, HBb.out⟩
  have g2 := h2.out
  go_wp2_with fail
  refine (h3.out _ HBb.out).mono ?_
  rintro e V1 ⟨rfl, hb⟩
  have Kp1 := Lib.hid (Kp.out.on hb)
  have Kq1 := Lib.hid (Kq.out.on hb)
  have HB_1 := Lib.hid (bthen HBb.out hb)
  clear hb
  dsimp only
  go_wp2_with fail
  go_ret
  exact ⟨by rfl, HB_1.out⟩
set_option maxRecDepth 8000 in
set_option maxHeartbeats 400000 in
theorem r29Same_go {T Tq : Int} {N Nq : Int} {S Sq : Int} {ls lsq : Value} {b0 : Bool} {b1 : Bool} {b2 : Bool} {b3 : Bool} {w : World} (h0 : Hid ((T == Tq) = b0)) (h1 : Hid ((N == Nq) = b1)) (h2 : Hid ((S == Sq) = b2)) (h3 : Hid (∀ W, Below w.heap.size w W → Calls Tryz.prog 51 #[ls, lsq] W fun e w' => e = .returned (.bool b3) ∧ Below W.heap.size W w')) :
    Calls Tryz.prog 36 #[.agg ([Value.int .i64 T] ++ ([Value.int .i64 N] ++ ([Value.int .i64 S] ++ ([ls])))).toArray, .agg ([Value.int .i64 Tq] ++ ([Value.int .i64 Nq] ++ ([Value.int .i64 Sq] ++ ([lsq])))).toArray] w fun e w' => e = .returned (.bool (b0 && (b1 && (b2 && (b3))))) ∧ Below w.heap.size w w' := by
  have SP : ∀ (W : World) (b : Nat), W.rangeAt b 0 ([Value.int .i64 T] ++ ([Value.int .i64 N] ++ ([Value.int .i64 S] ++ ([ls])))) → W.rangeAt b 0 ([Value.int .i64 T]) ∧ W.rangeAt b 1 ([Value.int .i64 N]) ∧ W.rangeAt b 2 ([Value.int .i64 S]) ∧ W.rangeAt b 3 ([ls]) := fun W b h => by
    obtain ⟨r0, s0⟩ := rg_split h (n := 1) rfl
    obtain ⟨r1, s1⟩ := rg_split s0 (n := 1) rfl
    obtain ⟨r2, s2⟩ := rg_split s1 (n := 1) rfl
    exact ⟨r0, r1, r2, s2⟩
  have SQ : ∀ (W : World) (b : Nat), W.rangeAt b 0 ([Value.int .i64 Tq] ++ ([Value.int .i64 Nq] ++ ([Value.int .i64 Sq] ++ ([lsq])))) → W.rangeAt b 0 ([Value.int .i64 Tq]) ∧ W.rangeAt b 1 ([Value.int .i64 Nq]) ∧ W.rangeAt b 2 ([Value.int .i64 Sq]) ∧ W.rangeAt b 3 ([lsq]) := fun W b h => by
    obtain ⟨r0, s0⟩ := rg_split h (n := 1) rfl
    obtain ⟨r1, s1⟩ := rg_split s0 (n := 1) rfl
    obtain ⟨r2, s2⟩ := rg_split s1 (n := 1) rfl
    exact ⟨r0, r1, r2, s2⟩
  have HSP := Lib.hid SP
  have HSQ := Lib.hid SQ
  clear SP SQ
  go_enter Tryz.func36, Tryz.ntmps36
  go_upto_region 1 with (first
    | (refine wpList_box_new rfl _ _ rfl ([Value.int .i64 T] ++ ([Value.int .i64 N] ++ ([Value.int .i64 S] ++ ([ls])))).toArray rfl ?_; intro W1 hW; have K1 := Lib.hid (Blk.newL (L := [Value.int .i64 T] ++ ([Value.int .i64 N] ++ ([Value.int .i64 S] ++ ([ls])))) hW List.toList_toArray); have HB1 := Lib.hid hW.bel; clear hW)
    | (refine wpList_box_new rfl _ _ rfl ([Value.int .i64 Tq] ++ ([Value.int .i64 Nq] ++ ([Value.int .i64 Sq] ++ ([lsq])))).toArray rfl ?_; intro W2 hW; have Kq := Lib.hid (Blk.newL (L := [Value.int .i64 Tq] ++ ([Value.int .i64 Nq] ++ ([Value.int .i64 Sq] ++ ([lsq])))) hW List.toList_toArray); have Kp := Lib.hid (K1.out.on hW.bel); have HBb := Lib.hid (bthen HB1.out hW.bel); clear hW K1 HB1))
  try go_frame
  have a0 := cell_of_range ((HSP.out _ _ Kp.out.rg).1)
  have c0 := cell_of_range ((HSQ.out _ _ Kq.out.rg).1)
  have a1 := cell_of_range ((HSP.out _ _ Kp.out.rg).2.1)
  have c1 := cell_of_range ((HSQ.out _ _ Kq.out.rg).2.1)
  have a2 := cell_of_range ((HSP.out _ _ Kp.out.rg).2.2.1)
  have c2 := cell_of_range ((HSQ.out _ _ Kq.out.rg).2.2.1)
  have a3 := cell_of_range ((HSP.out _ _ Kp.out.rg).2.2.2)
  have c3 := cell_of_range ((HSQ.out _ _ Kq.out.rg).2.2.2)
  try (apply wp_seq_k; intro K_ HK_)
  apply wp_region_lit
  cases b0
  · have g0 := h0.out
    go_wp2_with fail
    go_ret
    exact ⟨by rfl, HBb.out⟩
  have g0 := h0.out
  cases b1
  · have g1 := h1.out
    go_wp2_with fail
    go_ret
    exact ⟨by rfl, HBb.out⟩
  have g1 := h1.out
  cases b2
  · have g2 := h2.out
    go_wp2_with fail
    go_ret
    exact ⟨by rfl, HBb.out⟩
  have g2 := h2.out
  go_wp2_with fail
  refine (h3.out _ HBb.out).mono ?_
  rintro e V1 ⟨rfl, hb⟩
  have Kp1 := Lib.hid (Kp.out.on hb)
  have Kq1 := Lib.hid (Kq.out.on hb)
  have HB_1 := Lib.hid (bthen HBb.out hb)
  clear hb
  dsimp only
  go_wp2_with fail
  go_ret
  exact ⟨by rfl, HB_1.out⟩
set_option maxRecDepth 8000 in
set_option maxHeartbeats 400000 in
theorem sameGsa_go {au auq : Bool} {fx fxq : Int} {is isq : Value} {P Pq : List Value} {H Hq : List Value} {D Dq : List Value} {b0 : Bool} {b1 : Bool} {b2 : Bool} {b3 : Bool} {b4 : Bool} {b5 : Bool} {w : World} (lP : Hid (P.length = 2)) (lPq : Hid (Pq.length = 2)) (lH : Hid (H.length = 2)) (lHq : Hid (Hq.length = 2)) (lD : Hid (D.length = 2)) (lDq : Hid (Dq.length = 2)) (h0 : Hid ((au == auq) = b0)) (h1 : Hid ((fx == fxq) = b1)) (h2 : Hid (∀ W, Below w.heap.size w W → Calls Tryz.prog 32 #[is, isq] W fun e w' => e = .returned (.bool b2) ∧ Below W.heap.size W w')) (h3 : Hid (∀ W, (binOp .eql 39 (.agg P.toArray) (.agg Pq.toArray)).run Tryz.prog W = .ok (.bool b3) W)) (h4 : Hid (∀ W, (binOp .eql 39 (.agg H.toArray) (.agg Hq.toArray)).run Tryz.prog W = .ok (.bool b4) W)) (h5 : Hid (∀ W, (binOp .eql 39 (.agg D.toArray) (.agg Dq.toArray)).run Tryz.prog W = .ok (.bool b5) W)) :
    Calls Tryz.prog 30 #[.agg ([Value.bool au] ++ ([Value.int .i64 fx] ++ ([is] ++ (P ++ (H ++ (D)))))).toArray, .agg ([Value.bool auq] ++ ([Value.int .i64 fxq] ++ ([isq] ++ (Pq ++ (Hq ++ (Dq)))))).toArray] w fun e w' => e = .returned (.bool (b0 && (b1 && (b2 && (b3 && (b4 && (b5))))))) ∧ Below w.heap.size w w' := by
  have SP : ∀ (W : World) (b : Nat), W.rangeAt b 0 ([Value.bool au] ++ ([Value.int .i64 fx] ++ ([is] ++ (P ++ (H ++ (D)))))) → W.rangeAt b 0 ([Value.bool au]) ∧ W.rangeAt b 1 ([Value.int .i64 fx]) ∧ W.rangeAt b 2 ([is]) ∧ W.rangeAt b 3 (P) ∧ W.rangeAt b 5 (H) ∧ W.rangeAt b 7 (D) := fun W b h => by
    obtain ⟨r0, s0⟩ := rg_split h (n := 1) rfl
    obtain ⟨r1, s1⟩ := rg_split s0 (n := 1) rfl
    obtain ⟨r2, s2⟩ := rg_split s1 (n := 1) rfl
    obtain ⟨r3, s3⟩ := rg_split s2 (n := 2) lP.out
    obtain ⟨r4, s4⟩ := rg_split s3 (n := 2) lH.out
    exact ⟨r0, r1, r2, r3, r4, s4⟩
  have SQ : ∀ (W : World) (b : Nat), W.rangeAt b 0 ([Value.bool auq] ++ ([Value.int .i64 fxq] ++ ([isq] ++ (Pq ++ (Hq ++ (Dq)))))) → W.rangeAt b 0 ([Value.bool auq]) ∧ W.rangeAt b 1 ([Value.int .i64 fxq]) ∧ W.rangeAt b 2 ([isq]) ∧ W.rangeAt b 3 (Pq) ∧ W.rangeAt b 5 (Hq) ∧ W.rangeAt b 7 (Dq) := fun W b h => by
    obtain ⟨r0, s0⟩ := rg_split h (n := 1) rfl
    obtain ⟨r1, s1⟩ := rg_split s0 (n := 1) rfl
    obtain ⟨r2, s2⟩ := rg_split s1 (n := 1) rfl
    obtain ⟨r3, s3⟩ := rg_split s2 (n := 2) lPq.out
    obtain ⟨r4, s4⟩ := rg_split s3 (n := 2) lHq.out
    exact ⟨r0, r1, r2, r3, r4, s4⟩
  have HSP := Lib.hid SP
  have HSQ := Lib.hid SQ
  clear SP SQ
  go_enter Tryz.func30, Tryz.ntmps30
  go_upto_region 1 with (first
    | (refine wpList_box_new rfl _ _ rfl ([Value.bool au] ++ ([Value.int .i64 fx] ++ ([is] ++ (P ++ (H ++ (D)))))).toArray rfl ?_; intro W1 hW; have K1 := Lib.hid (Blk.newL (L := [Value.bool au] ++ ([Value.int .i64 fx] ++ ([is] ++ (P ++ (H ++ (D)))))) hW List.toList_toArray); have HB1 := Lib.hid hW.bel; clear hW)
    | (refine wpList_box_new rfl _ _ rfl ([Value.bool auq] ++ ([Value.int .i64 fxq] ++ ([isq] ++ (Pq ++ (Hq ++ (Dq)))))).toArray rfl ?_; intro W2 hW; have Kq := Lib.hid (Blk.newL (L := [Value.bool auq] ++ ([Value.int .i64 fxq] ++ ([isq] ++ (Pq ++ (Hq ++ (Dq)))))) hW List.toList_toArray); have Kp := Lib.hid (K1.out.on hW.bel); have HBb := Lib.hid (bthen HB1.out hW.bel); clear hW K1 HB1))
  try go_frame
  have a0 := cell_of_range ((HSP.out _ _ Kp.out.rg).1)
  have c0 := cell_of_range ((HSQ.out _ _ Kq.out.rg).1)
  have a1 := cell_of_range ((HSP.out _ _ Kp.out.rg).2.1)
  have c1 := cell_of_range ((HSQ.out _ _ Kq.out.rg).2.1)
  have a2 := cell_of_range ((HSP.out _ _ Kp.out.rg).2.2.1)
  have c2 := cell_of_range ((HSQ.out _ _ Kq.out.rg).2.2.1)
  try (apply wp_seq_k; intro K_ HK_)
  apply wp_region_lit
  cases b0
  · have g0 := h0.out
    go_wp2_with fail
    go_ret
    exact ⟨by rfl, HBb.out⟩
  have g0 := h0.out
  cases b1
  · have g1 := h1.out
    go_wp2_with fail
    go_ret
    exact ⟨by rfl, HBb.out⟩
  have g1 := h1.out
  go_wp2_with fail
  refine (h2.out _ HBb.out).mono ?_
  rintro e V1 ⟨rfl, hb⟩
  have Kp1 := Lib.hid (Kp.out.on hb)
  have Kq1 := Lib.hid (Kq.out.on hb)
  have HB_1 := Lib.hid (bthen HBb.out hb)
  clear hb
  dsimp only
  cases b2
  · go_wp2_with fail
    go_ret
    exact ⟨by rfl, HB_1.out⟩
  repeat (fail_if_success (show Oper.wp _ ⟨some 26, _, _, _, _, _⟩ _ _ _ _)
          first | go_values | go_skip | go_guarded | go_step | go_upon)
  refine wp_load_mid _ _ rfl w.heap.size 3 rfl P _ (HSP.out _ _ Kp1.out.rg).2.2.2.1 Tryz.underlying39 rfl (by rw [lP.out]; kernel_rfl) ?_
  repeat (fail_if_success (show Oper.wp _ ⟨some 28, _, _, _, _, _⟩ _ _ _ _)
          first | go_values | go_skip | go_guarded | go_step | go_upon)
  refine wp_load_mid _ _ rfl W1.heap.size 3 rfl Pq _ (HSQ.out _ _ Kq1.out.rg).2.2.2.1 Tryz.underlying39 rfl (by rw [lPq.out]; kernel_rfl) ?_
  go_step
  go_simp
  go_guarded
  refine wp_binopE .eql 39 (.tmp 26) (.tmp 28) 39 (by kernel_rfl) (u := .agg P.toArray) (v := .agg Pq.toArray) (by kernel_rfl) (by kernel_rfl) (by kernel_rfl) (h3.out _) ?_
  cases b3
  · go_wp2_with fail
    go_ret
    exact ⟨by rfl, HB_1.out⟩
  repeat (fail_if_success (show Oper.wp _ ⟨some 33, _, _, _, _, _⟩ _ _ _ _)
          first | go_values | go_skip | go_guarded | go_step | go_upon)
  refine wp_load_mid _ _ rfl w.heap.size 5 rfl H _ (HSP.out _ _ Kp1.out.rg).2.2.2.2.1 Tryz.underlying39 rfl (by rw [lH.out]; kernel_rfl) ?_
  repeat (fail_if_success (show Oper.wp _ ⟨some 35, _, _, _, _, _⟩ _ _ _ _)
          first | go_values | go_skip | go_guarded | go_step | go_upon)
  refine wp_load_mid _ _ rfl W1.heap.size 5 rfl Hq _ (HSQ.out _ _ Kq1.out.rg).2.2.2.2.1 Tryz.underlying39 rfl (by rw [lHq.out]; kernel_rfl) ?_
  go_step
  go_simp
  go_guarded
  refine wp_binopE .eql 39 (.tmp 33) (.tmp 35) 39 (by kernel_rfl) (u := .agg H.toArray) (v := .agg Hq.toArray) (by kernel_rfl) (by kernel_rfl) (by kernel_rfl) (h4.out _) ?_
  cases b4
  · go_wp2_with fail
    go_ret
    exact ⟨by rfl, HB_1.out⟩
  repeat (fail_if_success (show Oper.wp _ ⟨some 40, _, _, _, _, _⟩ _ _ _ _)
          first | go_values | go_skip | go_guarded | go_step | go_upon)
  refine wp_load_mid _ _ rfl w.heap.size 7 rfl D _ (HSP.out _ _ Kp1.out.rg).2.2.2.2.2 Tryz.underlying39 rfl (by rw [lD.out]; kernel_rfl) ?_
  repeat (fail_if_success (show Oper.wp _ ⟨some 42, _, _, _, _, _⟩ _ _ _ _)
          first | go_values | go_skip | go_guarded | go_step | go_upon)
  refine wp_load_mid _ _ rfl W1.heap.size 7 rfl Dq _ (HSQ.out _ _ Kq1.out.rg).2.2.2.2.2 Tryz.underlying39 rfl (by rw [lDq.out]; kernel_rfl) ?_
  go_step
  go_simp
  go_guarded
  refine wp_binopE .eql 39 (.tmp 40) (.tmp 42) 39 (by kernel_rfl) (u := .agg D.toArray) (v := .agg Dq.toArray) (by kernel_rfl) (by kernel_rfl) (by kernel_rfl) (h5.out _) ?_
  cases b5
  · go_wp2_with fail
    go_ret
    exact ⟨by rfl, HB_1.out⟩
  go_wp2_with fail
  go_ret
  exact ⟨by rfl, HB_1.out⟩
set_option maxRecDepth 8000 in
set_option maxHeartbeats 400000 in
theorem r27Same_go {au auq : Bool} {fx fxq : Int} {is isq : Value} {P Pq : List Value} {H Hq : List Value} {D Dq : List Value} {b0 : Bool} {b1 : Bool} {b2 : Bool} {b3 : Bool} {b4 : Bool} {b5 : Bool} {w : World} (lP : Hid (P.length = 2)) (lPq : Hid (Pq.length = 2)) (lH : Hid (H.length = 2)) (lHq : Hid (Hq.length = 2)) (lD : Hid (D.length = 2)) (lDq : Hid (Dq.length = 2)) (h0 : Hid ((au == auq) = b0)) (h1 : Hid ((fx == fxq) = b1)) (h2 : Hid (∀ W, Below w.heap.size w W → Calls Tryz.prog 37 #[is, isq] W fun e w' => e = .returned (.bool b2) ∧ Below W.heap.size W w')) (h3 : Hid (∀ W, (binOp .eql 39 (.agg P.toArray) (.agg Pq.toArray)).run Tryz.prog W = .ok (.bool b3) W)) (h4 : Hid (∀ W, (binOp .eql 39 (.agg H.toArray) (.agg Hq.toArray)).run Tryz.prog W = .ok (.bool b4) W)) (h5 : Hid (∀ W, (binOp .eql 39 (.agg D.toArray) (.agg Dq.toArray)).run Tryz.prog W = .ok (.bool b5) W)) :
    Calls Tryz.prog 35 #[.agg ([Value.bool au] ++ ([Value.int .i64 fx] ++ ([is] ++ (P ++ (H ++ (D)))))).toArray, .agg ([Value.bool auq] ++ ([Value.int .i64 fxq] ++ ([isq] ++ (Pq ++ (Hq ++ (Dq)))))).toArray] w fun e w' => e = .returned (.bool (b0 && (b1 && (b2 && (b3 && (b4 && (b5))))))) ∧ Below w.heap.size w w' := by
  have SP : ∀ (W : World) (b : Nat), W.rangeAt b 0 ([Value.bool au] ++ ([Value.int .i64 fx] ++ ([is] ++ (P ++ (H ++ (D)))))) → W.rangeAt b 0 ([Value.bool au]) ∧ W.rangeAt b 1 ([Value.int .i64 fx]) ∧ W.rangeAt b 2 ([is]) ∧ W.rangeAt b 3 (P) ∧ W.rangeAt b 5 (H) ∧ W.rangeAt b 7 (D) := fun W b h => by
    obtain ⟨r0, s0⟩ := rg_split h (n := 1) rfl
    obtain ⟨r1, s1⟩ := rg_split s0 (n := 1) rfl
    obtain ⟨r2, s2⟩ := rg_split s1 (n := 1) rfl
    obtain ⟨r3, s3⟩ := rg_split s2 (n := 2) lP.out
    obtain ⟨r4, s4⟩ := rg_split s3 (n := 2) lH.out
    exact ⟨r0, r1, r2, r3, r4, s4⟩
  have SQ : ∀ (W : World) (b : Nat), W.rangeAt b 0 ([Value.bool auq] ++ ([Value.int .i64 fxq] ++ ([isq] ++ (Pq ++ (Hq ++ (Dq)))))) → W.rangeAt b 0 ([Value.bool auq]) ∧ W.rangeAt b 1 ([Value.int .i64 fxq]) ∧ W.rangeAt b 2 ([isq]) ∧ W.rangeAt b 3 (Pq) ∧ W.rangeAt b 5 (Hq) ∧ W.rangeAt b 7 (Dq) := fun W b h => by
    obtain ⟨r0, s0⟩ := rg_split h (n := 1) rfl
    obtain ⟨r1, s1⟩ := rg_split s0 (n := 1) rfl
    obtain ⟨r2, s2⟩ := rg_split s1 (n := 1) rfl
    obtain ⟨r3, s3⟩ := rg_split s2 (n := 2) lPq.out
    obtain ⟨r4, s4⟩ := rg_split s3 (n := 2) lHq.out
    exact ⟨r0, r1, r2, r3, r4, s4⟩
  have HSP := Lib.hid SP
  have HSQ := Lib.hid SQ
  clear SP SQ
  go_enter Tryz.func35, Tryz.ntmps35
  go_upto_region 1 with (first
    | (refine wpList_box_new rfl _ _ rfl ([Value.bool au] ++ ([Value.int .i64 fx] ++ ([is] ++ (P ++ (H ++ (D)))))).toArray rfl ?_; intro W1 hW; have K1 := Lib.hid (Blk.newL (L := [Value.bool au] ++ ([Value.int .i64 fx] ++ ([is] ++ (P ++ (H ++ (D)))))) hW List.toList_toArray); have HB1 := Lib.hid hW.bel; clear hW)
    | (refine wpList_box_new rfl _ _ rfl ([Value.bool auq] ++ ([Value.int .i64 fxq] ++ ([isq] ++ (Pq ++ (Hq ++ (Dq)))))).toArray rfl ?_; intro W2 hW; have Kq := Lib.hid (Blk.newL (L := [Value.bool auq] ++ ([Value.int .i64 fxq] ++ ([isq] ++ (Pq ++ (Hq ++ (Dq)))))) hW List.toList_toArray); have Kp := Lib.hid (K1.out.on hW.bel); have HBb := Lib.hid (bthen HB1.out hW.bel); clear hW K1 HB1))
  try go_frame
  have a0 := cell_of_range ((HSP.out _ _ Kp.out.rg).1)
  have c0 := cell_of_range ((HSQ.out _ _ Kq.out.rg).1)
  have a1 := cell_of_range ((HSP.out _ _ Kp.out.rg).2.1)
  have c1 := cell_of_range ((HSQ.out _ _ Kq.out.rg).2.1)
  have a2 := cell_of_range ((HSP.out _ _ Kp.out.rg).2.2.1)
  have c2 := cell_of_range ((HSQ.out _ _ Kq.out.rg).2.2.1)
  try (apply wp_seq_k; intro K_ HK_)
  apply wp_region_lit
  cases b0
  · have g0 := h0.out
    go_wp2_with fail
    go_ret
    exact ⟨by rfl, HBb.out⟩
  have g0 := h0.out
  cases b1
  · have g1 := h1.out
    go_wp2_with fail
    go_ret
    exact ⟨by rfl, HBb.out⟩
  have g1 := h1.out
  go_wp2_with fail
  refine (h2.out _ HBb.out).mono ?_
  rintro e V1 ⟨rfl, hb⟩
  have Kp1 := Lib.hid (Kp.out.on hb)
  have Kq1 := Lib.hid (Kq.out.on hb)
  have HB_1 := Lib.hid (bthen HBb.out hb)
  clear hb
  dsimp only
  cases b2
  · go_wp2_with fail
    go_ret
    exact ⟨by rfl, HB_1.out⟩
  repeat (fail_if_success (show Oper.wp _ ⟨some 26, _, _, _, _, _⟩ _ _ _ _)
          first | go_values | go_skip | go_guarded | go_step | go_upon)
  refine wp_load_mid _ _ rfl w.heap.size 3 rfl P _ (HSP.out _ _ Kp1.out.rg).2.2.2.1 Tryz.underlying39 rfl (by rw [lP.out]; kernel_rfl) ?_
  repeat (fail_if_success (show Oper.wp _ ⟨some 28, _, _, _, _, _⟩ _ _ _ _)
          first | go_values | go_skip | go_guarded | go_step | go_upon)
  refine wp_load_mid _ _ rfl W1.heap.size 3 rfl Pq _ (HSQ.out _ _ Kq1.out.rg).2.2.2.1 Tryz.underlying39 rfl (by rw [lPq.out]; kernel_rfl) ?_
  go_step
  go_simp
  go_guarded
  refine wp_binopE .eql 39 (.tmp 26) (.tmp 28) 39 (by kernel_rfl) (u := .agg P.toArray) (v := .agg Pq.toArray) (by kernel_rfl) (by kernel_rfl) (by kernel_rfl) (h3.out _) ?_
  cases b3
  · go_wp2_with fail
    go_ret
    exact ⟨by rfl, HB_1.out⟩
  repeat (fail_if_success (show Oper.wp _ ⟨some 33, _, _, _, _, _⟩ _ _ _ _)
          first | go_values | go_skip | go_guarded | go_step | go_upon)
  refine wp_load_mid _ _ rfl w.heap.size 5 rfl H _ (HSP.out _ _ Kp1.out.rg).2.2.2.2.1 Tryz.underlying39 rfl (by rw [lH.out]; kernel_rfl) ?_
  repeat (fail_if_success (show Oper.wp _ ⟨some 35, _, _, _, _, _⟩ _ _ _ _)
          first | go_values | go_skip | go_guarded | go_step | go_upon)
  refine wp_load_mid _ _ rfl W1.heap.size 5 rfl Hq _ (HSQ.out _ _ Kq1.out.rg).2.2.2.2.1 Tryz.underlying39 rfl (by rw [lHq.out]; kernel_rfl) ?_
  go_step
  go_simp
  go_guarded
  refine wp_binopE .eql 39 (.tmp 33) (.tmp 35) 39 (by kernel_rfl) (u := .agg H.toArray) (v := .agg Hq.toArray) (by kernel_rfl) (by kernel_rfl) (by kernel_rfl) (h4.out _) ?_
  cases b4
  · go_wp2_with fail
    go_ret
    exact ⟨by rfl, HB_1.out⟩
  repeat (fail_if_success (show Oper.wp _ ⟨some 40, _, _, _, _, _⟩ _ _ _ _)
          first | go_values | go_skip | go_guarded | go_step | go_upon)
  refine wp_load_mid _ _ rfl w.heap.size 7 rfl D _ (HSP.out _ _ Kp1.out.rg).2.2.2.2.2 Tryz.underlying39 rfl (by rw [lD.out]; kernel_rfl) ?_
  repeat (fail_if_success (show Oper.wp _ ⟨some 42, _, _, _, _, _⟩ _ _ _ _)
          first | go_values | go_skip | go_guarded | go_step | go_upon)
  refine wp_load_mid _ _ rfl W1.heap.size 7 rfl Dq _ (HSQ.out _ _ Kq1.out.rg).2.2.2.2.2 Tryz.underlying39 rfl (by rw [lDq.out]; kernel_rfl) ?_
  go_step
  go_simp
  go_guarded
  refine wp_binopE .eql 39 (.tmp 40) (.tmp 42) 39 (by kernel_rfl) (u := .agg D.toArray) (v := .agg Dq.toArray) (by kernel_rfl) (by kernel_rfl) (by kernel_rfl) (h5.out _) ?_
  cases b5
  · go_wp2_with fail
    go_ret
    exact ⟨by rfl, HB_1.out⟩
  go_wp2_with fail
  go_ret
  exact ⟨by rfl, HB_1.out⟩
end Go.Proofs.YtafkadhijljmkaaGreat
