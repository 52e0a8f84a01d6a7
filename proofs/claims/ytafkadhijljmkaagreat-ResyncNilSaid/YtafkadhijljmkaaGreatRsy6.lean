/- Layer 40: knows. Printed by genrsy6.py. -/
import Derived.Test.YtafkadhijljmkaaGreatRsy5
namespace Go.Proofs.YtafkadhijljmkaaGreat
set_option linter.unusedVariables false
open Go.RowKit

theorem build_bad (w : World) : (Instr.build 70 #[(0, .int .i64 1)]).run Tryz.prog w = .ok (.agg #[.int .i64 1, .int .i64 0, .int .i64 0, .int .i64 0]) w := by kernel_rfl
theorem build_cnt3 (w : World) : (Instr.build 72 #[(0, .int .i64 3), (3, .agg #[.int .i64 1, .int .i64 0, .int .i64 0, .int .i64 0])]).run Tryz.prog w = .ok (.agg (cntA [3, 0, 0, 0, 0, 0, 0, 0, 0, 1, 0, 0, 0])) w := by kernel_rfl
theorem eql_cnt3 (w : World) : (binOp .eql 72 (.agg (cntA [3, 0, 0, 0, 0, 0, 0, 0, 0, 1, 0, 0, 0])) (.agg (cntA [3, 0, 0, 0, 0, 0, 0, 0, 0, 1, 0, 0, 0]))).run Tryz.prog w = .ok (.bool true) w := by kernel_rfl
theorem eqg_cnt3 (C D : Array Value) (x y : Operand) (w : World) : (eqGuard .eql 72 x y (.agg C) (.agg D)).run Tryz.prog w = .ok () w := by kernel_rfl
theorem yieldsIf_binop {P : Program} {ops : Array Oper} {S : World → Prop} {o : Oper} {a : Act} (hw : Region.wanted o (yielded ops a.tmps) = true) (bo : BinOp) (xT : TypeId) (x y : Operand) (yT : TypeId) (ho : o.op = .binOp bo xT x y yT) {u v r : Value} (hx : a.eval x = u) (hy : a.eval y = v) (hg : ∀ w, (eqGuard bo xT x y u v).run P w = .ok () w) (hr : ∀ w, (binOp bo xT u v).run P w = .ok r w) : YieldsIf P ops S o r a :=
  .inl ⟨hw, fun w _ => by
    unfold execOp
    rw [ho]
    simp only [hx, hy, Sem.run_bind, hg, hr, Result.andThen_ok, Sem.run_pure]⟩
set_option maxRecDepth 8000 in
set_option maxHeartbeats 1000000 in
theorem knows40_any (w : World) : Calls Tryz.prog 9 #[] w fun e w' => e = .returned (.bool true) ∧ Below w.heap.size w w' := by
  have EB := fun W => build_bad W
  have EC := fun W => build_cnt3 W
  go_enter Tryz.func9, Tryz.ntmps9
  go_wp2_with fail
  refine (rsyNew_any _).mono ?_
  rintro e w1 ⟨rfl, hd, hb, hs⟩
  have hz : w1.heap.size = w.heap.size + 2 := hs
  have HD1 := Lib.hid (hd.on (below_new w1 (.cells #[.int .u8 0] 5)))
  have HB1 := Lib.hid (bthen hb (below_new w1 (.cells #[.int .u8 0] 5)))
  have HK1 : Hid (Blk (w1.alloc (.cells #[.int .u8 0] 5)) w1.heap.size (bsV [0])) := Lib.hid (Blk.newL (grew_alloc w1 #[.int .u8 0] 5) rfl)
  have HZ := Lib.hid hz
  clear hd hb hs hz
  go_wp2_with fail
  refine (feed_one _ _ _ _ HD1.out HK1.out (by have := HZ.out; omega) (by have := HZ.out; omega)).mono ?_
  rintro e w2 ⟨rfl, hd, hk⟩
  have HB2 : Hid (Below w.heap.size w w2) := Lib.hid (HB1.out.trans (hk.below fun j q => by
    have := HZ.out
    refine ⟨by simp; omega, by omega, by omega⟩))
  have HD2 := Lib.hid (hd.on (below_new w2 (.cells #[.int .u8 181, .int .u8 98] 5)))
  have HB3 := Lib.hid (bthen HB2.out (below_new w2 (.cells #[.int .u8 181, .int .u8 98] 5)))
  have HK2 : Hid (Blk (w2.alloc (.cells #[.int .u8 181, .int .u8 98] 5)) w2.heap.size (bsV [181, 98])) := Lib.hid (Blk.newL (grew_alloc w2 #[.int .u8 181, .int .u8 98] 5) rfl)
  have HZ2 : Hid (w.heap.size + 2 ≤ w2.heap.size) := Lib.hid (by have h1 := hk.size; have h2 := HZ.out; simp at h1; omega)
  clear hd hk HD1 HB1 HK1 HB2
  go_wp2_with fail
  refine (feed_two _ _ _ _ HD2.out HK2.out (by have := HZ2.out; omega) (by have := HZ2.out; omega)).mono ?_
  rintro e w3 ⟨rfl, hd, hk⟩
  have HD3 := Lib.hid hd
  have HB4 : Hid (Below w.heap.size w w3) := Lib.hid (HB3.out.trans (hk.below fun j q => by
    have := HZ2.out
    refine ⟨by simp; omega, by omega, by omega⟩))
  clear hd hk HD2 HB3 HK2
  go_wp2_with fail
  try (apply wp_seq_k; intro K_ HK_)
  have hS0 : Below w3.heap.size w3 w3.drew := (Below.refl _ _).drew
  refine wp_region_held_drew (S := fun w' => Below w3.heap.size w3 w') (by kernel_rfl) hS0 (fun hHeld0 => ?_)
  refine wpAnyH_take (i := 0) (oi := ⟨some 13, _, _, _, _, _⟩) (v := ?_) rfl (by kernel_rfl) (by kernel_rfl) (by kernel_rfl) (fun _ _ _ h => h) (Or.inl ⟨by rfl, ?_⟩) (by assumption) ?_
  rotate_left
  · intro w' hSw
    go_simp
    try with_reducible rfl
  try go_frame
  refine wpAnyH_take (i := 1) (oi := ⟨some 14, _, _, _, _, _⟩) (v := ?_) rfl (by kernel_rfl) (by kernel_rfl) (by kernel_rfl) (fun _ _ _ h => h) (Or.inl ⟨by rfl, ?_⟩) (by assumption) ?_
  rotate_left
  · intro w' hSw
    go_simp
    try with_reducible rfl
  try go_frame
  refine wpAnyH_take (i := 2) (oi := ⟨some 15, _, _, _, _, _⟩) (v := ?_) rfl (by kernel_rfl) (by kernel_rfl) (by kernel_rfl) (fun _ _ _ h => h) (Or.inl ⟨by rfl, ?_⟩) (by assumption) ?_
  rotate_left
  · intro w' hSw
    go_simp
    try with_reducible rfl
  try go_frame
  refine wpAnyH_take (i := 3) (oi := ⟨some 16, _, _, _, _, _⟩) (v := ?_) rfl (by kernel_rfl) (by kernel_rfl) (by kernel_rfl) (fun _ _ _ h => h) (Or.inl ⟨by rfl, ?_⟩) (by assumption) ?_
  rotate_left
  · intro w' hSw
    go_simp
    try with_reducible rfl
  try go_frame
  refine wpAnyH_take (i := 4) (oi := ⟨some 17, _, _, _, _, _⟩) (v := ?_) rfl (by kernel_rfl) (by kernel_rfl) (by kernel_rfl) (fun _ _ _ h => h) (Or.inl ⟨by rfl, ?_⟩) (by assumption) ?_
  rotate_left
  · intro w' hSw
    go_simp
    try with_reducible rfl
  try go_frame
  refine wpAnyH_take (i := 5) (oi := ⟨some 18, _, _, _, _, _⟩) (v := ?_) rfl (by kernel_rfl) (by kernel_rfl) (by kernel_rfl) (fun _ _ _ h => h) (Or.inl ⟨by rfl, ?_⟩) (by assumption) ?_
  rotate_left
  · intro w' hSw
    go_simp
    try with_reducible rfl
  try go_frame
  refine wpAnyH_take (i := 6) (oi := ⟨some 19, _, _, _, _, _⟩) (v := ?_) rfl (by kernel_rfl) (by kernel_rfl) (by kernel_rfl) (fun _ _ _ h => h) (Or.inl ⟨by rfl, ?_⟩) (by assumption) ?_
  rotate_left
  · intro w' hSw
    go_simp
    try with_reducible rfl
  try go_frame
  refine wpAnyH_take (i := 7) (oi := ⟨some 20, _, _, _, _, _⟩) (v := ?_) rfl (by kernel_rfl) (by kernel_rfl) (by kernel_rfl) (fun _ _ _ h => h) (Or.inl ⟨by rfl, ?_⟩) (by assumption) ?_
  rotate_left
  · intro w' hSw
    go_simp
    try with_reducible rfl
  try go_frame
  refine wpAnyH_take (i := 9) (oi := ⟨some 22, _, _, _, _, _⟩) (v := ?_) rfl (by kernel_rfl) (by kernel_rfl) (by kernel_rfl) (fun _ _ _ h => h) (Or.inl ⟨by rfl, ?_⟩) (by assumption) ?_
  rotate_left
  · intro w' hSw
    go_simp
    try with_reducible rfl
  try go_frame
  refine wpAnyH_take (i := 10) (oi := ⟨some 23, _, _, _, _, _⟩) (v := ?_) rfl (by kernel_rfl) (by kernel_rfl) (by kernel_rfl) (fun _ _ _ h => h) (Or.inl ⟨by rfl, ?_⟩) (by assumption) ?_
  rotate_left
  · intro w' hSw
    go_simp
    try with_reducible rfl
  try go_frame
  refine wpAnyH_ready (rs := [8]) (by kernel_rfl) (by simp) ?_
  refine AllReadyH.cons (o := ⟨some 21, _, _, _, _, _⟩) rfl (fun K hK => ?_) AllReadyH.nil
  rw [if_pos (by rfl)]
  go_step
  refine (rsyCounts_any (HD3.out.on hHeld0) (by decide)).mono ?_
  rintro e w4 ⟨rfl, hd, hb⟩
  have HD4 := Lib.hid hd
  have hS4 : Below w3.heap.size w3 w4 := hHeld0.trans (hb.mono hHeld0.size)
  clear hd hb
  try go_frame
  refine hK.out _ _ (hS4) (fun hHeld => ?_)
  clear hK K
  try go_frame
  refine wpAnyH_take (i := 11) (oi := ⟨some 24, _, _, _, _, _⟩) (v := .bool true) rfl (by kernel_rfl) (by kernel_rfl) (by kernel_rfl) (fun _ _ _ h => h) (yieldsIf_binop (by rfl) .eql 72 (.tmp 21) (.tmp 23) 72 rfl (u := .agg (cntA [3, 0, 0, 0, 0, 0, 0, 0, 0, 1, 0, 0, 0])) (v := .agg (cntA [3, 0, 0, 0, 0, 0, 0, 0, 0, 1, 0, 0, 0])) (by kernel_rfl) (by kernel_rfl) (fun W => eqg_cnt3 _ _ _ _ W) (fun W => eql_cnt3 W)) (by assumption) ?_
  try go_frame
  refine wpAnyH_take (i := 12) (oi := ⟨some 25, _, _, _, _, _⟩) (v := ?_) rfl (by kernel_rfl) (by kernel_rfl) (by kernel_rfl) (fun _ _ _ h => h) (Or.inl ⟨by rfl, ?_⟩) (by assumption) ?_
  rotate_left
  · intro w' hSw
    go_simp
    try with_reducible rfl
  try go_frame
  refine wpAnyH_take (i := 13) (oi := ⟨some 26, _, _, _, _, _⟩) (v := ?_) rfl (by kernel_rfl) (by kernel_rfl) (by kernel_rfl) (fun _ _ _ h => h) (Or.inl ⟨by rfl, ?_⟩) (by assumption) ?_
  rotate_left
  · intro w' hSw
    go_simp
    try with_reducible rfl
  try go_frame
  refine wpAnyH_take (i := 14) (oi := ⟨some 27, _, _, _, _, _⟩) (v := ?_) rfl (by kernel_rfl) (by kernel_rfl) (by kernel_rfl) (fun _ _ _ h => h) (Or.inl ⟨by rfl, ?_⟩) (by assumption) ?_
  rotate_left
  · intro w' hSw
    go_simp
    try with_reducible rfl
  try go_frame
  refine wpAnyH_ready (rs := [15, 17]) (by kernel_rfl) (by simp) ?_
  refine AllReadyH.cons (o := ⟨some 28, _, _, _, _, _⟩) rfl (fun K hK => ?_) (AllReadyH.cons (o := ⟨some 30, _, _, _, _, _⟩) rfl (fun K hK => ?_) AllReadyH.nil)
  · rw [if_pos (by rfl)]
    go_step
    refine (rsyRest_any (HD4.out.on (Below.refl _ _))).mono ?_
    rintro e v1 ⟨rfl, hk, -, hb, -⟩
    have hR1 := hk
    have hS1 : Below w3.heap.size w3 v1 := hS4.trans (hb.mono hS4.size)
    have hS1x : Below w4.heap.size w4 v1 := hb
    try go_frame
    refine hK.out _ _ hS1 (fun hHeld1 => ?_)
    clear hK K
    try go_frame
    refine wpAnyH_ready (rs := [16, 17]) (by kernel_rfl) (by simp) ?_
    refine AllReadyH.cons (o := ⟨some 29, _, _, _, _, _⟩) rfl (fun K hK => ?_) (AllReadyH.cons (o := ⟨some 30, _, _, _, _, _⟩) rfl (fun K hK => ?_) AllReadyH.nil)
    · rw [if_pos (by rfl)]
      have cv := conv_two hR1
      go_step
      clear cv
      try go_frame
      refine hK.out _ _ hS1 (fun hHeld2 => ?_)
      clear hK K
      try go_frame
      refine wpAnyH_ready (rs := [17]) (by kernel_rfl) (by simp) ?_
      refine AllReadyH.cons (o := ⟨some 30, _, _, _, _, _⟩) rfl (fun K hK => ?_) AllReadyH.nil
      rw [if_pos (by rfl)]
      go_step
      have hB3 : Blk (World.alloc v1 (.cells #[.int .u8 181, .int .u8 98] 5)) (v1).heap.size (bsV [181, 98]) := Blk.newL (grew_alloc _ #[.int .u8 181, .int .u8 98] 5) rfl
      have hb := below_new v1 (.cells #[.int .u8 181, .int .u8 98] 5)
      have hS3 := hS1.trans (hb.mono hS1.size)
      have hS3x := bthen hS1x hb
      have hR3 := hR1.on hb
      generalize World.alloc v1 (.cells #[.int .u8 181, .int .u8 98] 5) = v3 at *
      try go_frame
      refine hK.out _ _ hS3 (fun hHeld3 => ?_)
      clear hK K
      try go_frame
      refine wpAnyH_ready (rs := [18]) (by kernel_rfl) (by simp) ?_
      refine AllReadyH.cons (o := ⟨some 31, _, _, _, _, _⟩) rfl (fun K hK => ?_) AllReadyH.nil
      rw [if_pos (by rfl)]
      have cv := conv_two hB3
      go_step
      clear cv
      try go_frame
      refine hK.out _ _ hS3 (fun hHeld4 => ?_)
      clear hK K
      try go_frame
      refine wpAnyH_take (i := 19) (oi := ⟨some 32, _, _, _, _, _⟩) (v := ?_) rfl (by kernel_rfl) (by kernel_rfl) (by kernel_rfl) (fun _ _ _ h => h) (Or.inl ⟨by rfl, ?_⟩) (by assumption) ?_
      rotate_left
      · intro w' hSw
        go_simp
        try with_reducible rfl
      try go_frame
      refine wpAnyH_take (i := 20) (oi := ⟨some 33, _, _, _, _, _⟩) (v := ?_) rfl (by kernel_rfl) (by kernel_rfl) (by kernel_rfl) (fun _ _ _ h => h) (Or.inl ⟨by rfl, ?_⟩) (by assumption) ?_
      rotate_left
      · intro w' hSw
        go_simp
        try with_reducible rfl
      try go_frame
      refine wpAnyH_take (i := 21) (oi := ⟨some 0, _, _, _, _, _⟩) (v := ?_) rfl (by kernel_rfl) (by kernel_rfl) (by kernel_rfl) (fun _ _ _ h => h) (Or.inl ⟨by rfl, ?_⟩) (by assumption) ?_
      rotate_left
      · intro w' hSw
        go_simp
        try with_reducible rfl
      try go_frame
      refine wpAnyH_done (by kernel_rfl) ?_ _
      try go_frame
      go_wp2_with fail
      go_ret
      exact ⟨rfl, bthen HB4.out hS3⟩
    · rw [if_pos (by rfl)]
      go_step
      have hB5 : Blk (World.alloc v1 (.cells #[.int .u8 181, .int .u8 98] 5)) (v1).heap.size (bsV [181, 98]) := Blk.newL (grew_alloc _ #[.int .u8 181, .int .u8 98] 5) rfl
      have hb := below_new v1 (.cells #[.int .u8 181, .int .u8 98] 5)
      have hS5 := hS1.trans (hb.mono hS1.size)
      have hS5x := bthen hS1x hb
      have hR5 := hR1.on hb
      generalize World.alloc v1 (.cells #[.int .u8 181, .int .u8 98] 5) = v5 at *
      try go_frame
      refine hK.out _ _ hS5 (fun hHeld5 => ?_)
      clear hK K
      try go_frame
      refine wpAnyH_ready (rs := [16, 18]) (by kernel_rfl) (by simp) ?_
      refine AllReadyH.cons (o := ⟨some 29, _, _, _, _, _⟩) rfl (fun K hK => ?_) (AllReadyH.cons (o := ⟨some 31, _, _, _, _, _⟩) rfl (fun K hK => ?_) AllReadyH.nil)
      · rw [if_pos (by rfl)]
        have cv := conv_two hR5
        go_step
        clear cv
        try go_frame
        refine hK.out _ _ hS5 (fun hHeld6 => ?_)
        clear hK K
        try go_frame
        refine wpAnyH_ready (rs := [18]) (by kernel_rfl) (by simp) ?_
        refine AllReadyH.cons (o := ⟨some 31, _, _, _, _, _⟩) rfl (fun K hK => ?_) AllReadyH.nil
        rw [if_pos (by rfl)]
        have cv := conv_two hB5
        go_step
        clear cv
        try go_frame
        refine hK.out _ _ hS5 (fun hHeld7 => ?_)
        clear hK K
        try go_frame
        refine wpAnyH_take (i := 19) (oi := ⟨some 32, _, _, _, _, _⟩) (v := ?_) rfl (by kernel_rfl) (by kernel_rfl) (by kernel_rfl) (fun _ _ _ h => h) (Or.inl ⟨by rfl, ?_⟩) (by assumption) ?_
        rotate_left
        · intro w' hSw
          go_simp
          try with_reducible rfl
        try go_frame
        refine wpAnyH_take (i := 20) (oi := ⟨some 33, _, _, _, _, _⟩) (v := ?_) rfl (by kernel_rfl) (by kernel_rfl) (by kernel_rfl) (fun _ _ _ h => h) (Or.inl ⟨by rfl, ?_⟩) (by assumption) ?_
        rotate_left
        · intro w' hSw
          go_simp
          try with_reducible rfl
        try go_frame
        refine wpAnyH_take (i := 21) (oi := ⟨some 0, _, _, _, _, _⟩) (v := ?_) rfl (by kernel_rfl) (by kernel_rfl) (by kernel_rfl) (fun _ _ _ h => h) (Or.inl ⟨by rfl, ?_⟩) (by assumption) ?_
        rotate_left
        · intro w' hSw
          go_simp
          try with_reducible rfl
        try go_frame
        refine wpAnyH_done (by kernel_rfl) ?_ _
        try go_frame
        go_wp2_with fail
        go_ret
        exact ⟨rfl, bthen HB4.out hS5⟩
      · rw [if_pos (by rfl)]
        have cv := conv_two hB5
        go_step
        clear cv
        try go_frame
        refine hK.out _ _ hS5 (fun hHeld8 => ?_)
        clear hK K
        try go_frame
        refine wpAnyH_ready (rs := [16]) (by kernel_rfl) (by simp) ?_
        refine AllReadyH.cons (o := ⟨some 29, _, _, _, _, _⟩) rfl (fun K hK => ?_) AllReadyH.nil
        rw [if_pos (by rfl)]
        have cv := conv_two hR5
        go_step
        clear cv
        try go_frame
        refine hK.out _ _ hS5 (fun hHeld9 => ?_)
        clear hK K
        try go_frame
        refine wpAnyH_take (i := 19) (oi := ⟨some 32, _, _, _, _, _⟩) (v := ?_) rfl (by kernel_rfl) (by kernel_rfl) (by kernel_rfl) (fun _ _ _ h => h) (Or.inl ⟨by rfl, ?_⟩) (by assumption) ?_
        rotate_left
        · intro w' hSw
          go_simp
          try with_reducible rfl
        try go_frame
        refine wpAnyH_take (i := 20) (oi := ⟨some 33, _, _, _, _, _⟩) (v := ?_) rfl (by kernel_rfl) (by kernel_rfl) (by kernel_rfl) (fun _ _ _ h => h) (Or.inl ⟨by rfl, ?_⟩) (by assumption) ?_
        rotate_left
        · intro w' hSw
          go_simp
          try with_reducible rfl
        try go_frame
        refine wpAnyH_take (i := 21) (oi := ⟨some 0, _, _, _, _, _⟩) (v := ?_) rfl (by kernel_rfl) (by kernel_rfl) (by kernel_rfl) (fun _ _ _ h => h) (Or.inl ⟨by rfl, ?_⟩) (by assumption) ?_
        rotate_left
        · intro w' hSw
          go_simp
          try with_reducible rfl
        try go_frame
        refine wpAnyH_done (by kernel_rfl) ?_ _
        try go_frame
        go_wp2_with fail
        go_ret
        exact ⟨rfl, bthen HB4.out hS5⟩
  · rw [if_pos (by rfl)]
    go_step
    have hB10 : Blk (World.alloc w4 (.cells #[.int .u8 181, .int .u8 98] 5)) (w4).heap.size (bsV [181, 98]) := Blk.newL (grew_alloc _ #[.int .u8 181, .int .u8 98] 5) rfl
    have hb := below_new w4 (.cells #[.int .u8 181, .int .u8 98] 5)
    have hS10 := hS4.trans (hb.mono hS4.size)
    have hS10x := hb
    generalize World.alloc w4 (.cells #[.int .u8 181, .int .u8 98] 5) = v10 at *
    try go_frame
    refine hK.out _ _ hS10 (fun hHeld10 => ?_)
    clear hK K
    try go_frame
    refine wpAnyH_ready (rs := [15, 18]) (by kernel_rfl) (by simp) ?_
    refine AllReadyH.cons (o := ⟨some 28, _, _, _, _, _⟩) rfl (fun K hK => ?_) (AllReadyH.cons (o := ⟨some 31, _, _, _, _, _⟩) rfl (fun K hK => ?_) AllReadyH.nil)
    · rw [if_pos (by rfl)]
      go_step
      refine (rsyRest_any (HD4.out.on hS10x)).mono ?_
      rintro e v11 ⟨rfl, hk, -, hb, -⟩
      have hR11 := hk
      have hS11 : Below w3.heap.size w3 v11 := hS10.trans (hb.mono hS10.size)
      have hS11x : Below w4.heap.size w4 v11 := bthen hS10x hb
      have hB11 := hB10.on hb
      try go_frame
      refine hK.out _ _ hS11 (fun hHeld11 => ?_)
      clear hK K
      try go_frame
      refine wpAnyH_ready (rs := [16, 18]) (by kernel_rfl) (by simp) ?_
      refine AllReadyH.cons (o := ⟨some 29, _, _, _, _, _⟩) rfl (fun K hK => ?_) (AllReadyH.cons (o := ⟨some 31, _, _, _, _, _⟩) rfl (fun K hK => ?_) AllReadyH.nil)
      · rw [if_pos (by rfl)]
        have cv := conv_two hR11
        go_step
        clear cv
        try go_frame
        refine hK.out _ _ hS11 (fun hHeld12 => ?_)
        clear hK K
        try go_frame
        refine wpAnyH_ready (rs := [18]) (by kernel_rfl) (by simp) ?_
        refine AllReadyH.cons (o := ⟨some 31, _, _, _, _, _⟩) rfl (fun K hK => ?_) AllReadyH.nil
        rw [if_pos (by rfl)]
        have cv := conv_two hB11
        go_step
        clear cv
        try go_frame
        refine hK.out _ _ hS11 (fun hHeld13 => ?_)
        clear hK K
        try go_frame
        refine wpAnyH_take (i := 19) (oi := ⟨some 32, _, _, _, _, _⟩) (v := ?_) rfl (by kernel_rfl) (by kernel_rfl) (by kernel_rfl) (fun _ _ _ h => h) (Or.inl ⟨by rfl, ?_⟩) (by assumption) ?_
        rotate_left
        · intro w' hSw
          go_simp
          try with_reducible rfl
        try go_frame
        refine wpAnyH_take (i := 20) (oi := ⟨some 33, _, _, _, _, _⟩) (v := ?_) rfl (by kernel_rfl) (by kernel_rfl) (by kernel_rfl) (fun _ _ _ h => h) (Or.inl ⟨by rfl, ?_⟩) (by assumption) ?_
        rotate_left
        · intro w' hSw
          go_simp
          try with_reducible rfl
        try go_frame
        refine wpAnyH_take (i := 21) (oi := ⟨some 0, _, _, _, _, _⟩) (v := ?_) rfl (by kernel_rfl) (by kernel_rfl) (by kernel_rfl) (fun _ _ _ h => h) (Or.inl ⟨by rfl, ?_⟩) (by assumption) ?_
        rotate_left
        · intro w' hSw
          go_simp
          try with_reducible rfl
        try go_frame
        refine wpAnyH_done (by kernel_rfl) ?_ _
        try go_frame
        go_wp2_with fail
        go_ret
        exact ⟨rfl, bthen HB4.out hS11⟩
      · rw [if_pos (by rfl)]
        have cv := conv_two hB11
        go_step
        clear cv
        try go_frame
        refine hK.out _ _ hS11 (fun hHeld14 => ?_)
        clear hK K
        try go_frame
        refine wpAnyH_ready (rs := [16]) (by kernel_rfl) (by simp) ?_
        refine AllReadyH.cons (o := ⟨some 29, _, _, _, _, _⟩) rfl (fun K hK => ?_) AllReadyH.nil
        rw [if_pos (by rfl)]
        have cv := conv_two hR11
        go_step
        clear cv
        try go_frame
        refine hK.out _ _ hS11 (fun hHeld15 => ?_)
        clear hK K
        try go_frame
        refine wpAnyH_take (i := 19) (oi := ⟨some 32, _, _, _, _, _⟩) (v := ?_) rfl (by kernel_rfl) (by kernel_rfl) (by kernel_rfl) (fun _ _ _ h => h) (Or.inl ⟨by rfl, ?_⟩) (by assumption) ?_
        rotate_left
        · intro w' hSw
          go_simp
          try with_reducible rfl
        try go_frame
        refine wpAnyH_take (i := 20) (oi := ⟨some 33, _, _, _, _, _⟩) (v := ?_) rfl (by kernel_rfl) (by kernel_rfl) (by kernel_rfl) (fun _ _ _ h => h) (Or.inl ⟨by rfl, ?_⟩) (by assumption) ?_
        rotate_left
        · intro w' hSw
          go_simp
          try with_reducible rfl
        try go_frame
        refine wpAnyH_take (i := 21) (oi := ⟨some 0, _, _, _, _, _⟩) (v := ?_) rfl (by kernel_rfl) (by kernel_rfl) (by kernel_rfl) (fun _ _ _ h => h) (Or.inl ⟨by rfl, ?_⟩) (by assumption) ?_
        rotate_left
        · intro w' hSw
          go_simp
          try with_reducible rfl
        try go_frame
        refine wpAnyH_done (by kernel_rfl) ?_ _
        try go_frame
        go_wp2_with fail
        go_ret
        exact ⟨rfl, bthen HB4.out hS11⟩
    · rw [if_pos (by rfl)]
      have cv := conv_two hB10
      go_step
      clear cv
      try go_frame
      refine hK.out _ _ hS10 (fun hHeld16 => ?_)
      clear hK K
      try go_frame
      refine wpAnyH_ready (rs := [15]) (by kernel_rfl) (by simp) ?_
      refine AllReadyH.cons (o := ⟨some 28, _, _, _, _, _⟩) rfl (fun K hK => ?_) AllReadyH.nil
      rw [if_pos (by rfl)]
      go_step
      refine (rsyRest_any (HD4.out.on hS10x)).mono ?_
      rintro e v17 ⟨rfl, hk, -, hb, -⟩
      have hR17 := hk
      have hS17 : Below w3.heap.size w3 v17 := hS10.trans (hb.mono hS10.size)
      have hS17x : Below w4.heap.size w4 v17 := bthen hS10x hb
      have hB17 := hB10.on hb
      try go_frame
      refine hK.out _ _ hS17 (fun hHeld17 => ?_)
      clear hK K
      try go_frame
      refine wpAnyH_ready (rs := [16]) (by kernel_rfl) (by simp) ?_
      refine AllReadyH.cons (o := ⟨some 29, _, _, _, _, _⟩) rfl (fun K hK => ?_) AllReadyH.nil
      rw [if_pos (by rfl)]
      have cv := conv_two hR17
      go_step
      clear cv
      try go_frame
      refine hK.out _ _ hS17 (fun hHeld18 => ?_)
      clear hK K
      try go_frame
      refine wpAnyH_take (i := 19) (oi := ⟨some 32, _, _, _, _, _⟩) (v := ?_) rfl (by kernel_rfl) (by kernel_rfl) (by kernel_rfl) (fun _ _ _ h => h) (Or.inl ⟨by rfl, ?_⟩) (by assumption) ?_
      rotate_left
      · intro w' hSw
        go_simp
        try with_reducible rfl
      try go_frame
      refine wpAnyH_take (i := 20) (oi := ⟨some 33, _, _, _, _, _⟩) (v := ?_) rfl (by kernel_rfl) (by kernel_rfl) (by kernel_rfl) (fun _ _ _ h => h) (Or.inl ⟨by rfl, ?_⟩) (by assumption) ?_
      rotate_left
      · intro w' hSw
        go_simp
        try with_reducible rfl
      try go_frame
      refine wpAnyH_take (i := 21) (oi := ⟨some 0, _, _, _, _, _⟩) (v := ?_) rfl (by kernel_rfl) (by kernel_rfl) (by kernel_rfl) (fun _ _ _ h => h) (Or.inl ⟨by rfl, ?_⟩) (by assumption) ?_
      rotate_left
      · intro w' hSw
        go_simp
        try with_reducible rfl
      try go_frame
      refine wpAnyH_done (by kernel_rfl) ?_ _
      try go_frame
      go_wp2_with fail
      go_ret
      exact ⟨rfl, bthen HB4.out hS17⟩
end Go.Proofs.YtafkadhijljmkaaGreat
