/- Layer 40: the law ResyncNil. -/
import Derived.Test.YtafkadhijljmkaaGreatRsy6
namespace Go.Proofs.YtafkadhijljmkaaGreat
set_option linter.unusedVariables false
open Go.RowKit

/-- A decoder that there is not, or that New did not make. -/
def NoDec (v : Value) (W : World) : Prop := v = .pointer none ∨ ∃ g, v = .pointer (some ⟨g, 0, none⟩) ∧ W.cell? ⟨g, 0, none⟩ = some (.pointer none)
theorem NoDec.on {v : Value} {W W' : World} (h : NoDec v W) (hb : Below W.heap.size W W') : NoDec v W' := by
  rcases h with rfl | ⟨g, rfl, hc⟩
  · exact .inl rfl
  · exact .inr ⟨g, rfl, (hb.cell (p := ⟨g, 0, none⟩) (lt_of_cellQ hc)).trans hc⟩
theorem rsyThere_no {v : Value} {W : World} (h : NoDec v W) : Calls Tryz.prog 23 #[v] W fun e w' => e = .returned (.bool false) ∧ W = w' := by
  rcases h with rfl | ⟨g, rfl, hc⟩
  · go_enter Tryz.func23, Tryz.ntmps23
    go_wp2
    go_ret
    exact ⟨rfl, rfl⟩
  · go_enter Tryz.func23, Tryz.ntmps23
    go_wp2
    go_ret
    exact ⟨rfl, rfl⟩
theorem rsyFeed_nil {v x : Value} {W : World} (h : NoDec v W) : Calls Tryz.prog 10 #[v, x] W fun e w' => e = .returned (.slice none 0 0) ∧ W = w' := by
  have H := Lib.hid h
  clear h
  go_enter Tryz.func10, Tryz.ntmps10
  go_wp2_with fail
  refine (rsyThere_no H.out).mono ?_
  rintro e w' ⟨rfl, rfl⟩
  go_wp2_with fail
  go_ret
  exact ⟨rfl, rfl⟩
theorem rsyRest_nil {v : Value} {W : World} (h : NoDec v W) : Calls Tryz.prog 11 #[v] W fun e w' => e = .returned (.slice none 0 0) ∧ W = w' := by
  have H := Lib.hid h
  clear h
  go_enter Tryz.func11, Tryz.ntmps11
  go_wp2_with fail
  refine (rsyThere_no H.out).mono ?_
  rintro e w' ⟨rfl, rfl⟩
  go_wp2_with fail
  go_ret
  exact ⟨rfl, rfl⟩
set_option maxRecDepth 8000 in
set_option maxHeartbeats 400000 in
theorem rsyCounts_nil {v : Value} {W : World} (h : NoDec v W) : Calls Tryz.prog 12 #[v] W fun e w' => e = .returned (.agg (cntA z13)) ∧ Below W.heap.size W w' := by
  have HZ := fun W => Lib.hid (zero_Cnt W)
  have HZA := fun W => Lib.hid (zero_A4 W)
  have HBC := fun W => Lib.hid (build_Cnt0 W)
  have HN := Lib.hid h
  clear h
  go_enter Tryz.func12, Tryz.ntmps12
  go_upto_region 2 with (first
    | (refine wpList_alloc_new rfl 72 rfl (cntA z13) (HZ _).out ?_; intro W1 hW; have HC1 := Lib.hid (Blk.newL (L := z13.map (Value.int .i64)) hW rfl); have HB1 := Lib.hid hW.bel; clear hW)
    | (refine wpList_alloc_new rfl 70 rfl z4A (HZA _).out ?_; intro W2 hW; have HC2 := Lib.hid (HC1.out.on hW.bel); have HB2 := Lib.hid (bthen HB1.out hW.bel); clear hW))
  try (apply wp_seq_k; intro K_ HK_)
  have hS0 : Below W2.heap.size W2 W2.drew := (Below.refl _ _).drew
  refine wp_region_held_drew (S := fun w' => Below W2.heap.size W2 w') (by kernel_rfl) hS0 (fun hHeld0 => ?_)
  refine wpAnyH_take (i := 0) (oi := ⟨some 4, _, _, _, _, _⟩) (v := ?_) rfl (by kernel_rfl) (by kernel_rfl) (by kernel_rfl) (fun _ _ _ h => h) (Or.inl ⟨by rfl, ?_⟩) (by assumption) ?_
  rotate_left
  · intro w' hSw
    go_simp
    try with_reducible rfl
  try go_frame
  refine wpAnyH_ready (rs := [1]) (by kernel_rfl) (by simp) ?_
  refine AllReadyH.cons (o := ⟨some 5, _, _, _, _, _⟩) rfl (fun K hK => ?_) AllReadyH.nil
  rw [if_pos (by rfl)]
  go_step
  refine (rsyThere_no (HN.out.on (bthen HB2.out hHeld0))).mono ?_
  rintro e W' ⟨rfl, rfl⟩
  try go_frame
  refine hK.out _ _ (hHeld0) (fun hHeld => ?_)
  clear hK K
  try go_frame
  refine wpAnyH_take (i := 2) (oi := ⟨some 6, _, _, _, _, _⟩) (v := ?_) rfl (by kernel_rfl) (by kernel_rfl) (by kernel_rfl) (fun _ _ _ h => h) (Or.inl ⟨by rfl, ?_⟩) (by assumption) ?_
  rotate_left
  · intro w' hSw
    go_simp
    try with_reducible rfl
  try go_frame
  refine wpAnyH_take (i := 3) (oi := ⟨some 7, _, _, _, _, _⟩) (v := ?_) rfl (by kernel_rfl) (by kernel_rfl) (by kernel_rfl) (fun _ _ _ h => h) (Or.inl ⟨by rfl, ?_⟩) (by assumption) ?_
  rotate_left
  · intro w' hSw
    go_simp
    try with_reducible rfl
  try go_frame
  refine wpAnyH_take (i := 4) (oi := ⟨some 8, _, _, _, _, _⟩) (v := undef) rfl (by kernel_rfl) (by kernel_rfl) (by kernel_rfl) (fun _ _ _ h => h) (Or.inr ⟨by rfl, rfl⟩) (by assumption) ?_
  try go_frame
  refine wpAnyH_take (i := 5) (oi := ⟨some 9, _, _, _, _, _⟩) (v := undef) rfl (by kernel_rfl) (by kernel_rfl) (by kernel_rfl) (fun _ _ _ h => h) (Or.inr ⟨by rfl, rfl⟩) (by assumption) ?_
  try go_frame
  refine wpAnyH_take (i := 6) (oi := ⟨some 10, _, _, _, _, _⟩) (v := undef) rfl (by kernel_rfl) (by kernel_rfl) (by kernel_rfl) (fun _ _ _ h => h) (Or.inr ⟨by rfl, rfl⟩) (by assumption) ?_
  try go_frame
  refine wpAnyH_take (i := 7) (oi := ⟨some 11, _, _, _, _, _⟩) (v := undef) rfl (by kernel_rfl) (by kernel_rfl) (by kernel_rfl) (fun _ _ _ h => h) (Or.inr ⟨by rfl, rfl⟩) (by assumption) ?_
  try go_frame
  refine wpAnyH_take (i := 8) (oi := ⟨some 12, _, _, _, _, _⟩) (v := undef) rfl (by kernel_rfl) (by kernel_rfl) (by kernel_rfl) (fun _ _ _ h => h) (Or.inr ⟨by rfl, rfl⟩) (by assumption) ?_
  try go_frame
  refine wpAnyH_take (i := 9) (oi := ⟨some 13, _, _, _, _, _⟩) (v := undef) rfl (by kernel_rfl) (by kernel_rfl) (by kernel_rfl) (fun _ _ _ h => h) (Or.inr ⟨by rfl, rfl⟩) (by assumption) ?_
  try go_frame
  refine wpAnyH_take (i := 10) (oi := ⟨some 14, _, _, _, _, _⟩) (v := undef) rfl (by kernel_rfl) (by kernel_rfl) (by kernel_rfl) (fun _ _ _ h => h) (Or.inr ⟨by rfl, rfl⟩) (by assumption) ?_
  try go_frame
  refine wpAnyH_take (i := 11) (oi := ⟨some 15, _, _, _, _, _⟩) (v := undef) rfl (by kernel_rfl) (by kernel_rfl) (by kernel_rfl) (fun _ _ _ h => h) (Or.inr ⟨by rfl, rfl⟩) (by assumption) ?_
  try go_frame
  refine wpAnyH_take (i := 12) (oi := ⟨some 16, _, _, _, _, _⟩) (v := undef) rfl (by kernel_rfl) (by kernel_rfl) (by kernel_rfl) (fun _ _ _ h => h) (Or.inr ⟨by rfl, rfl⟩) (by assumption) ?_
  try go_frame
  refine wpAnyH_take (i := 13) (oi := ⟨some 17, _, _, _, _, _⟩) (v := undef) rfl (by kernel_rfl) (by kernel_rfl) (by kernel_rfl) (fun _ _ _ h => h) (Or.inr ⟨by rfl, rfl⟩) (by assumption) ?_
  try go_frame
  refine wpAnyH_take (i := 14) (oi := ⟨some 18, _, _, _, _, _⟩) (v := undef) rfl (by kernel_rfl) (by kernel_rfl) (by kernel_rfl) (fun _ _ _ h => h) (Or.inr ⟨by rfl, rfl⟩) (by assumption) ?_
  try go_frame
  refine wpAnyH_take (i := 15) (oi := ⟨some 19, _, _, _, _, _⟩) (v := undef) rfl (by kernel_rfl) (by kernel_rfl) (by kernel_rfl) (fun _ _ _ h => h) (Or.inr ⟨by rfl, rfl⟩) (by assumption) ?_
  try go_frame
  refine wpAnyH_take (i := 16) (oi := ⟨some 20, _, _, _, _, _⟩) (v := undef) rfl (by kernel_rfl) (by kernel_rfl) (by kernel_rfl) (fun _ _ _ h => h) (Or.inr ⟨by rfl, rfl⟩) (by assumption) ?_
  try go_frame
  refine wpAnyH_take (i := 17) (oi := ⟨some 21, _, _, _, _, _⟩) (v := undef) rfl (by kernel_rfl) (by kernel_rfl) (by kernel_rfl) (fun _ _ _ h => h) (Or.inr ⟨by rfl, rfl⟩) (by assumption) ?_
  try go_frame
  refine wpAnyH_take (i := 18) (oi := ⟨some 22, _, _, _, _, _⟩) (v := undef) rfl (by kernel_rfl) (by kernel_rfl) (by kernel_rfl) (fun _ _ _ h => h) (Or.inr ⟨by rfl, rfl⟩) (by assumption) ?_
  try go_frame
  refine wpAnyH_take (i := 19) (oi := ⟨some 23, _, _, _, _, _⟩) (v := ?_) rfl (by kernel_rfl) (by kernel_rfl) (by kernel_rfl) (fun _ _ _ h => h) (Or.inl ⟨by rfl, ?_⟩) (by assumption) ?_
  rotate_left
  · intro w' hSw
    go_simp
    try with_reducible rfl
  try go_frame
  refine wpAnyH_done (by kernel_rfl) ?_ _
  try go_frame
  have HC3 := Lib.hid (HC2.out.on hHeld0)
  have HB3 := Lib.hid (bthen HB2.out hHeld0)
  clear HC2 HB2 HC1 HB1
  go_wp2_with (first
    | refine wpList_build0 rfl 72 rfl (HBC _).out ?_
    | (refine wpList_store_in rfl 72 _ _ rfl W.heap.size 0 (cntA z13) rfl rfl (HC3.out.there 0 13 (by decide)) (cnt_size rfl) (cnt_ones _) ?_; intro W4 hs; have HC4 := Lib.hid (HC3.out.all hs rfl); have HB4 := Lib.hid (HB3.out.trans (hs.below (Nat.le_refl _))); clear hs))
  try go_frame
  have HLD := Lib.hid (run_loadVar_mid (P := Tryz.prog) W4 W.heap.size 0 72 (cntA z13).toList _ HC4.out.rg Tryz.underlying72 rfl (by rw [Array.length_toList]; exact cnt_size rfl))
  refine bodyPost_ret (v := .agg (cntA z13)) (by rw [results_c0 rfl]; simp [asAddr, Result.andThen, HLD.out]) rfl ⟨rfl, HB4.out⟩
theorem eql_z13 (w : World) : (binOp .neq 72 (.agg (cntA z13)) (.agg (cntA z13))).run Tryz.prog w = .ok (.bool false) w := by kernel_rfl
theorem eqg_z13 (C D : Array Value) (x y : Operand) (w : World) : (eqGuard .neq 72 x y (.agg C) (.agg D)).run Tryz.prog w = .ok () w := by kernel_rfl
def z14A : Array Value := #[.pointer none, .int .i64 0, .int .i64 0, .int .i64 0, .int .i64 0, .int .i64 0, .int .i64 0, .int .i64 0, .int .i64 0, .int .i64 0, .int .i64 0, .int .i64 0, .int .i64 0, .int .i64 0]
theorem build_Dec0 (w : World) : (Instr.build 76 #[]).run Tryz.prog w = .ok (.agg z14A) w := by kernel_rfl
section
variable {P : Program} {ops : Array Oper} {o : Oper} {a : Act} {w : World} {Q : Exit → Act → World → Prop}
theorem wp_exec40 {K : Act → World → Prop} {v : Value} (hex : (execOp a.eval o).run P w = .ok (.value v) w) (h : K (a.put o.dst v) w) : o.wp P a w K Q := by
  unfold Oper.wp
  rw [hex]
  exact h
theorem build0_exec40 {t : TypeId} (ho : o.op = .build t #[]) {v : Value} (hr : (Instr.build t #[]).run P w = .ok v w) : (execOp a.eval o).run P w = .ok (.value v) w := by
  unfold execOp; rw [ho]; simp [hr]
theorem wp_binop40 {K : Act → World → Prop} (bo : BinOp) (xT : TypeId) (x y : Operand) (yT : TypeId) (ho : o.op = .binOp bo xT x y yT) {u v r : Value} (hx : a.eval x = u) (hy : a.eval y = v) (hg : (eqGuard bo xT x y u v).run P w = .ok () w) (hr : (binOp bo xT u v).run P w = .ok r w)
    (h : K (a.put o.dst r) w) : o.wp P a w K Q := by
  unfold Oper.wp execOp
  rw [ho]
  simp only [hx, hy, Sem.run_bind, hg, hr, Result.andThen_ok, Sem.run_pure]
  exact h
end
set_option maxRecDepth 8000 in
set_option maxHeartbeats 1000000 in
theorem resyncNil_any (A : Option Addr) (c : Nat) (L : List UInt8) (w : World) (hn : L.length ≤ maxLen) (_ : L.length ≤ c) (_ : A = none → c = 0) (_ : FlatQ (fun b => b < w.heap.size) w A (bsV L)) : Calls Tryz.prog 4 #[.slice A L.length c] w fun e w' => e = .returned (.bool true) ∧ Below w.heap.size w w' := by
  unfold maxLen at hn
  generalize L.length = n at *
  by_cases hl : 4000 < (n : Int)
  · go_enter Tryz.func4, Tryz.ntmps4
    go_wp2_with fail
    refine (knows40_any _).mono ?_
    rintro e w' ⟨rfl, hb⟩
    have HB := Lib.hid hb
    clear hb
    go_wp2_with fail
    go_ret
    exact ⟨rfl, HB.out⟩
  · have HB0 := fun W => Lib.hid (build_Dec0 W)
    go_enter Tryz.func4, Tryz.ntmps4
    go_wp2_with fail
    go_loopw [3, 4] (fun s3 s4 wr => ∃ k : Nat, k ≤ 2 ∧ s4 = .int .i64 k ∧ Hid (NoDec s3 wr) ∧ Hid (Below w.heap.size w wr)) (fun _ s4 _ => 2 - (intOf s4).toNat)
    case atStart => exact ⟨0, by omega, rfl, .inl rfl, Below.refl _ _⟩
    case round =>
      obtain ⟨k, hk, rfl, HN, HB⟩ := hrel
      by_cases hk2 : (k : Int) < 2
      · go_wp2_with fail
        refine (rsyFeed_nil HN.out).mono ?_
        rintro e w' ⟨rfl, rfl⟩
        go_wp2_with fail
        refine (rsyRest_nil HN.out).mono ?_
        rintro e w' ⟨rfl, rfl⟩
        go_wp2_with fail
        refine (rsyCounts_nil HN.out).mono ?_
        rintro e w2 ⟨rfl, hb⟩
        have HB2 := Lib.hid (bthen HB.out hb)
        clear hb HB HN
        dsimp only
        repeat (fail_if_success (show Oper.wp _ ⟨some 27, _, _, _, _, _⟩ _ _ _ _)
                first | go_values | go_skip | go_guarded | go_step | go_upon)
        refine wp_exec40 (v := .agg (cntA z13)) (build0_exec40 rfl (build_Cnt0 _)) ?_
        go_step
        go_simp
        go_guarded
        refine wp_binop40 .neq 72 (.tmp 26) (.tmp 27) 72 (by kernel_rfl) (u := .agg (cntA z13)) (v := .agg (cntA z13)) (by kernel_rfl) (by kernel_rfl) (eqg_z13 _ _ _ _ _) (eql_z13 _) ?_
        go_wp2_with (first
          | refine wpList_build0 rfl 76 rfl (HB0 _).out ?_
          | (refine wpList_box_new rfl _ _ rfl z14A rfl ?_; intro W1 hW; have HD1 : Hid (NoDec (.pointer (some ⟨w2.heap.size, 0, none⟩)) W1) := Lib.hid (.inr ⟨_, rfl, hW.cell 0 rfl⟩); have HB3 := Lib.hid (bthen HB2.out hW.bel); clear hW))
        go_roundw
        case rel => exact ⟨k + 1, by omega, by go_num, HD1, HB3⟩
        case measure => simp [intOf]; omega
      · go_wp2_with fail
        refine (knows40_any _).mono ?_
        rintro e w' ⟨rfl, hb⟩
        have HB1 := Lib.hid (bthen HB.out hb)
        clear hb HB HN
        go_wp2_with fail
        go_ret
        exact ⟨rfl, HB1.out⟩
end Go.Proofs.YtafkadhijljmkaaGreat
