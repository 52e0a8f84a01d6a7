/- Layer 38: Few; knows. -/
import Derived.Test.YtafkadhijljmkaaGreatItm
import Derived.Test.YtafkadhijljmkaaGreatRsy5
namespace Go.Proofs.YtafkadhijljmkaaGreat
set_option linter.unusedVariables false
open Go.RowKit

def BoolE (w : World) (e : Ending) (w' : World) : Prop := ∃ b, e = .returned (.bool b) ∧ Below w.heap.size w w'
set_option maxRecDepth 8000 in
set_option maxHeartbeats 1000000 in
theorem r30Few_ex {w : World} {L : List Value} {n : NmeK} (h : NmeV w L n) : Calls Tryz.prog 13 #[.agg L.toArray] w (BoolE w) := by
  obtain ⟨G, R, A, V, U, rfl, h1, h2, ⟨is, P, H, D, rfl, ⟨B1, c1, rfl, -, -⟩, p1, p2, p3⟩, h4, ⟨ls, rfl, ⟨B2, c2, rfl, -, -⟩⟩⟩ := h
  have lg := Lib.hid (gga_len h1)
  have lr := Lib.hid (rmc_len h2)
  have lp := Lib.hid (num_len p1)
  have lh := Lib.hid (num_len p2)
  have ld := Lib.hid (num_len p3)
  have lv := Lib.hid (vtg_len h4)
  clear h1 h2 p1 p2 p3 h4
  obtain ⟨M, hM⟩ : ∃ M, M = [Value.int .i64 n.kd] ++ ([Value.string n.tk] ++ (G ++ (R ++ (([Value.bool n.A.au] ++ ([Value.int .i64 n.A.fx] ++ ([Value.slice B1 n.A.I.length c1] ++ (P ++ (H ++ (D)))))) ++ (V ++ (([Value.int .i64 n.U.T] ++ ([Value.int .i64 n.U.N] ++ ([Value.int .i64 n.U.S] ++ ([Value.slice B2 n.U.L.length c2]))))))))))  := ⟨_, rfl⟩
  have HC : Hid (∀ (W : World) (b : Nat), W.rangeAt b 0 M → W.cell? ⟨b, 1, none⟩ = some (.string n.tk) ∧ W.cell? ⟨b, 46, none⟩ = some (.slice B1 n.A.I.length c1) ∧ W.cell? ⟨b, 64, none⟩ = some (.slice B2 n.U.L.length c2)) := Lib.hid fun W b h => by
    subst hM
    obtain ⟨-, h⟩ := rg_split h (n := 1) rfl
    obtain ⟨r1, h⟩ := rg_split h (n := 1) rfl
    obtain ⟨-, h⟩ := rg_split h (n := 22) lg.out
    obtain ⟨-, h⟩ := rg_split h (n := 20) lr.out
    obtain ⟨ha, h⟩ := rg_split h (n := 9) (by simp [lp.out, lh.out, ld.out])
    obtain ⟨-, ha⟩ := rg_split ha (n := 1) rfl
    obtain ⟨-, ha⟩ := rg_split ha (n := 1) rfl
    obtain ⟨r2, -⟩ := rg_split ha (n := 1) rfl
    obtain ⟨-, h⟩ := rg_split h (n := 8) lv.out
    obtain ⟨-, h⟩ := rg_split h (n := 1) rfl
    obtain ⟨-, h⟩ := rg_split h (n := 1) rfl
    obtain ⟨-, h⟩ := rg_split h (n := 1) rfl
    exact ⟨cell_of_range r1, cell_of_range r2, cell_of_range h⟩
  rw [← hM]
  clear hM lg lr lp lh ld lv
  have HE : Hid (∀ b w', Below w.heap.size w w' → BoolE w (.returned (.bool b)) w') := Lib.hid fun b w' hb => ⟨b, rfl, hb⟩
  go_enter Tryz.func13, Tryz.ntmps13
  go_upto_region 1 with (refine wpList_box_new rfl _ _ rfl M.toArray rfl ?_; intro W1 hW; have K1 := Lib.hid (Blk.newL (L := M) hW List.toList_toArray); have HB1 := Lib.hid hW.bel; clear hW)
  obtain ⟨a1, a2, a3⟩ := HC.out _ _ K1.out.rg
  generalize n.A.I.length = n1 at *
  generalize n.U.L.length = n2 at *
  generalize n.tk = tk at *
  cases g1 : decide ((tk.size : Int) ≤ 100) <;> cases g2 : decide ((n1 : Int) ≤ 20) <;> simp only [decide_eq_true_eq, decide_eq_false_iff_not, Int.not_le] at g1 g2 <;> go_wp2_with fail
  all_goals (go_ret; exact HE.out _ _ HB1.out)
set_option maxRecDepth 8000 in
set_option maxHeartbeats 1000000 in
theorem r38Few_ex {w : World} {L : List Value} {x : ItmK} (h : ItmV w L x) : Calls Tryz.prog 5 #[.agg L.toArray] w (BoolE w) := by
  obtain ⟨U, N, T, rfl, ⟨P, ss, D, A, sp, rfl, h1, ⟨B1, c1, rfl, -, -⟩, h2, h3, ⟨B2, c2, rfl, -, -⟩⟩, hN, ⟨vs, rfl, ⟨B3, c3, rfl, -, -⟩⟩⟩ := h
  have lp := Lib.hid (pvt_len h1)
  have ld := Lib.hid (dop_len h2)
  have la := Lib.hid (ack_len h3)
  have ln := Lib.hid hN.len
  have HN := Lib.hid hN
  clear h1 h2 h3 hN
  obtain ⟨M, hM⟩ : ∃ M, M = [Value.int .i64 x.pr] ++ ([Value.bool x.od] ++ (([Value.int .i64 x.U.kd] ++ (P ++ ([Value.int .i64 x.U.tw] ++ ([Value.slice B1 x.U.X.length c1] ++ (D ++ (A ++ ([Value.int .i64 x.U.ly] ++ ([Value.slice B2 x.U.Y.length c2])))))))) ++ (N ++ ([Value.int .i64 x.T.sq] ++ ([Value.int .i64 x.T.sy] ++ ([Value.int .i64 x.T.cm] ++ ([Value.int .i64 x.T.id] ++ ([Value.slice B3 x.T.V.length c3])))))))) := ⟨_, rfl⟩
  have HC : Hid (∀ (W : World) (b : Nat), W.rangeAt b 0 M → W.cell? ⟨b, 36, none⟩ = some (.slice B1 x.U.X.length c1) ∧ W.cell? ⟨b, 49, none⟩ = some (.slice B2 x.U.Y.length c2) ∧ W.rangeAt b 50 N ∧ W.cell? ⟨b, 119, none⟩ = some (.slice B3 x.T.V.length c3)) := Lib.hid fun W b h => by
    subst hM
    obtain ⟨-, h⟩ := rg_split h (n := 1) rfl
    obtain ⟨-, h⟩ := rg_split h (n := 1) rfl
    obtain ⟨hu, h⟩ := rg_split h (n := 48) (by simp [lp.out, ld.out, la.out])
    obtain ⟨rN, h⟩ := rg_split h (n := 65) ln.out
    obtain ⟨-, hu⟩ := rg_split hu (n := 1) rfl
    obtain ⟨-, hu⟩ := rg_split hu (n := 32) lp.out
    obtain ⟨-, hu⟩ := rg_split hu (n := 1) rfl
    obtain ⟨r1, hu⟩ := rg_split hu (n := 1) rfl
    obtain ⟨-, hu⟩ := rg_split hu (n := 8) ld.out
    obtain ⟨-, hu⟩ := rg_split hu (n := 3) la.out
    obtain ⟨-, r2⟩ := rg_split hu (n := 1) rfl
    obtain ⟨-, h⟩ := rg_split h (n := 1) rfl
    obtain ⟨-, h⟩ := rg_split h (n := 1) rfl
    obtain ⟨-, h⟩ := rg_split h (n := 1) rfl
    obtain ⟨-, h⟩ := rg_split h (n := 1) rfl
    exact ⟨cell_of_range r1, cell_of_range r2, rN, cell_of_range h⟩
  rw [← hM]
  clear hM lp ld la
  have HE : Hid (∀ b w', Below w.heap.size w w' → BoolE w (.returned (.bool b)) w') := Lib.hid fun b w' hb => ⟨b, rfl, hb⟩
  go_enter Tryz.func5, Tryz.ntmps5
  go_upto_region 1 with (refine wpList_box_new rfl _ _ rfl M.toArray rfl ?_; intro W1 hW; have K1 := Lib.hid (Blk.newL (L := M) hW List.toList_toArray); have HB1 := Lib.hid hW.bel; clear hW)
  obtain ⟨a1, a2, rN, a3⟩ := HC.out _ _ K1.out.rg
  have RN := Lib.hid rN
  clear rN a3
  generalize x.U.X.length = n1 at *
  generalize x.U.Y.length = n2 at *
  generalize x.T.V.length = n3 at *
  cases g1 : decide ((n1 : Int) ≤ 70)
  · simp only [decide_eq_false_iff_not, Int.not_le] at g1
    go_wp2_with fail
    go_ret
    exact HE.out _ _ HB1.out
  cases g2 : decide ((n2 : Int) ≤ 40)
  · simp only [decide_eq_true_eq, decide_eq_false_iff_not, Int.not_le] at g1 g2
    go_wp2_with fail
    go_ret
    exact HE.out _ _ HB1.out
  simp only [decide_eq_true_eq] at g1 g2
  try (apply wp_seq_k; intro K_ HK_)
  apply wp_region_lit
  repeat (fail_if_success (show Oper.wp _ ⟨some 19, _, _, _, _, _⟩ _ _ _ _)
          first | go_values | go_skip | go_guarded | go_step | go_upon)
  refine wp_load_mid _ _ rfl w.heap.size 50 rfl N _ RN.out Tryz.underlying55 rfl (by rw [ln.out]; kernel_rfl) ?_
  go_wp2_with fail
  refine (r30Few_ex (HN.out.on HB1.out)).mono ?_
  rintro e W2 ⟨b, rfl, hb⟩
  obtain ⟨-, -, -, a3⟩ := HC.out _ _ (K1.out.on hb).rg
  have HB2 := Lib.hid (bthen HB1.out hb)
  clear hb a1 a2 K1 HB1
  dsimp only
  cases b <;> go_wp2_with fail
  all_goals (go_ret; exact HE.out _ _ HB2.out)
theorem at_zero (W : World) (d : Nat) (h : Blk W d (bsV [0])) : Calls Tryz.prog 14 #[.slice (some ⟨d, 0, none⟩) 1 1] W (AtPost 1 0 0 3 W) :=
  prbAt_drop (Q := fun _ => True) (some ⟨d, 0, none⟩) 1 0 [] (h.flat trivial) (by decide) (by unfold maxLen; decide)
theorem at_two2 (W : World) (d : Nat) (h : Blk W d (bsV [181, 98])) : Calls Tryz.prog 14 #[.slice (some ⟨d, 0, none⟩) 2 2] W (AtPost 0 1 0 0 W) := at_two W d h
set_option maxRecDepth 8000 in
set_option maxHeartbeats 1000000 in
theorem knows38_any (w : World) : Calls Tryz.prog 6 #[] w fun e w' => e = .returned (.bool true) ∧ Below w.heap.size w w' := by
  have HZ := fun W => Lib.hid (zero_Ve W)
  have HK1 : Hid (Blk (w.alloc (.cells #[.int .u8 0] 5)) w.heap.size (bsV [0])) := Lib.hid (Blk.newL (grew_alloc w #[.int .u8 0] 5) rfl)
  have HP : ∀ W, Hid (Calls Tryz.prog 15 #[.int .u8 36] W fun e w' => e = .returned (.int .i64 2) ∧ W = w') := fun W => Lib.hid (proto_any 36 W)
  go_enter Tryz.func6, Tryz.ntmps6
  go_wp2_with fail
  refine (at_zero _ _ HK1.out).mono ?_
  rintro e w1 ⟨rfl, hb⟩
  have HB1 := Lib.hid (bthen (below_new w (.cells #[.int .u8 0] 5)) hb)
  have HK2 : Hid (Blk (w1.alloc (.cells #[.int .u8 181, .int .u8 98] 5)) w1.heap.size (bsV [181, 98])) := Lib.hid (Blk.newL (grew_alloc w1 #[.int .u8 181, .int .u8 98] 5) rfl)
  clear hb HK1
  go_wp2_with fail
  refine (at_two2 _ _ HK2.out).mono ?_
  rintro e w2 ⟨rfl, hb⟩
  have HB2 := Lib.hid (bthen HB1.out (bthen (below_new w1 (.cells #[.int .u8 181, .int .u8 98] 5)) hb))
  clear hb HK2 HB1
  go_upto_region 2 with (first
    | (refine wpList_store_in rfl 81 _ _ rfl w2.heap.size 0 (veA 1 0 0 3) rfl rfl (HV1.out.there 0 124 (Nat.le_refl _)) (ve_size _ _ _ _) (ve_ones _ _ _ _) ?_; intro W5 hs; have HX1 := Lib.hid (HV1.out.all hs rfl); have HX2 := Lib.hid (HV2.out.far hs (by have := HV1.out.lt; have := HS3.out; omega)); have HB5 := Lib.hid (HB4.out.trans (hs.below HB2.out.size)); clear hs HV1 HV2 HB4)
    | (refine wpList_store_in rfl 81 _ _ rfl W3.heap.size 0 (veA 0 1 0 0) rfl rfl (HX2.out.there 0 124 (Nat.le_refl _)) (ve_size _ _ _ _) (ve_ones _ _ _ _) ?_; intro W6 hs; have HY2 := Lib.hid (HX2.out.all hs rfl); have HY1 := Lib.hid (HX1.out.far hs (by have := HS3.out; omega)); have HB6 := Lib.hid (HB5.out.trans (hs.below (by have := HB2.out.size; have := HS3.out; omega))); clear hs HX1 HX2 HB5)
    | (refine wpList_alloc_new rfl 81 rfl (veA 0 0 0 0) (HZ _).out ?_; first
        | (intro W4 hW; have HV2 := Lib.hid (Blk.newL (L := veL 0 0 0 0 zItL) hW rfl); have HV1 := Lib.hid (HU1.out.on hW.bel); have HB4 := Lib.hid (bthen HB3.out hW.bel); clear hW HU1 HB3)
        | (intro W3 hW; have HU1 := Lib.hid (Blk.newL (L := veL 0 0 0 0 zItL) hW rfl); have HS3 := Lib.hid hW.sz; have HB3 := Lib.hid (bthen HB2.out hW.bel); clear hW)))
  have v0 := HY1.out.cell 0 (v := .int .i64 1) rfl
  have v1 := HY2.out.cell 0 (v := .int .i64 0) rfl
  have v2 := HY2.out.cell 1 (v := .int .i64 1) rfl
  clear HY1 HY2
  go_wp2_with (refine (HP _).out.mono ?_; rintro e w' ⟨rfl, rfl⟩)
  go_ret
  exact ⟨rfl, HB6.out⟩
end Go.Proofs.YtafkadhijljmkaaGreat
