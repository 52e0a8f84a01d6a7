/- The reference's Same of a number and a slice (layers 17, 20). Printed by geneq3.py. -/
import Derived.Test.YtafkadhijljmkaaGreatEqr
import Derived.Test.YtafkadhijljmkaaGreatBig
import Derived.Deep.DeepCutAuto
namespace Go.Proofs.YtafkadhijljmkaaGreat
set_option linter.unusedVariables false
open Go.RowKit

set_option maxRecDepth 8000 in
set_option maxHeartbeats 1000000 in
theorem r17Same_eq (T U : Int) (A B : Option Addr) (n m c d : Nat) (X Y : List (List Lit)) (w : World) (hX : Hid (X.length = n)) (hY : Hid (Y.length = m)) (hA : Hid (SlK 97 7 (fun b => b < w.heap.size) w A X)) (hB : Hid (SlK 97 7 (fun b => b < w.heap.size) w B Y)) (hn : n ≤ maxLen) (hm : m ≤ maxLen) :
    Calls Tryz.prog 33 #[.agg #[.int .i64 T, .slice A n c], .agg #[.int .i64 U, .slice B m d]] w fun e w' => e = .returned (.bool (decide (T = U) && decide (X = Y))) ∧ Below w.heap.size w w' := by
  unfold maxLen at hn hm
  by_cases hT : T = U
  · subst hT
    rw [decide_eq_true (rfl : T = T), Bool.true_and]
    have hTT : (T != T) = false := by rw [bne_eq_false_iff_eq]
    by_cases hnm : n = m
    · subst hnm
      have hnn : ((n : Int) != (n : Int)) = false := by rw [bne_eq_false_iff_eq]
      have HPT : Hid (X = Y → decide (X = Y) = true) := Lib.hid fun h => decide_eq_true h
      have HPF : Hid (X ≠ Y → decide (X = Y) = false) := Lib.hid fun h => decide_eq_false h
      generalize decide (X = Y) = R at *
      go_enter Tryz.func33, Tryz.ntmps33
      go_upto_region 1 with (first
        | (refine wpList_box_new rfl _ _ rfl #[.int .i64 T, .slice A n c] rfl ?_; intro W1 hW; have HK1 := Lib.hid (Blk.newL (L := [.int .i64 T, .slice A n c]) hW rfl); have HB1 := Lib.hid hW.bel; clear hW)
        | (refine wpList_box_new rfl _ _ rfl #[.int .i64 T, .slice B n d] rfl ?_; intro W2 hW; have HK2 := Lib.hid (Blk.newL (L := [.int .i64 T, .slice B n d]) hW rfl); have HK12 := Lib.hid (HK1.out.on hW.bel); have HB2 := Lib.hid (bthen HB1.out hW.bel); clear hW))
      have g0 := HK12.out.cell 0 (v := .int .i64 T) rfl
      have g1 := HK12.out.cell 1 (v := .slice A n c) rfl
      have g2 := HK2.out.cell 0 (v := .int .i64 T) rfl
      have g3 := HK2.out.cell 1 (v := .slice B n d) rfl
      go_wp2_with fail
      clear g0 g1 g2 g3
      go_loopg [5] n (fun g s13 wr => ∃ k : Nat, k ≤ n ∧ n - k ≤ g ∧ s13 = .int .i64 k ∧ Hid (Below W2.heap.size W2 wr) ∧ Hid (∀ j, j < k → X[j]? = Y[j]?))
      case atStart => exact ⟨0, Nat.zero_le _, by omega, rfl, Below.refl _ _, fun j hj => absurd hj (Nat.not_lt_zero _)⟩
      case round =>
        obtain ⟨k, hk, hg, rfl, HB, HP⟩ := hrel
        have HK1r := Lib.hid (HK12.out.on HB.out)
        have HK2r := Lib.hid (HK2.out.on HB.out)
        have HBw := Lib.hid (bthen HB2.out HB.out)
        have g1 := HK1r.out.cell 1 (v := .slice A n c) rfl
        by_cases hlt : k < n
        · have hx : k < X.length := by rw [hX.out]; exact hlt
          have hy : k < Y.length := by rw [hY.out]; exact hlt
          obtain ⟨b1, o1, L1, hA1, hq1, hr1, hv1⟩ := hA.out k hx
          obtain ⟨b2, o2, L2, hA2, hq2, hr2, hv2⟩ := hB.out k hy
          subst hA1 hA2
          have hb1 : b1 < wr.heap.size := Nat.lt_of_lt_of_le hq1 HBw.out.size
          have hb2 : b2 < wr.heap.size := Nat.lt_of_lt_of_le hq2 HBw.out.size
          have hr1 := Lib.hid (range_below hr1 HBw.out hq1)
          have hr2 := Lib.hid (range_below hr2 HBw.out hq2)
          have hl1 := Lib.hid (hv1.struct_len Tryz.underlying97)
          have hl2 := Lib.hid (hv2.struct_len Tryz.underlying97)
          have hne := Lib.hid (neq_key (m := 10) Tryz.underlying97 (by kernel_rfl) (by decide) hv1 hv2)
          have i1 : (0 : Int) ≤ (k : Int) := Int.natCast_nonneg _
          have i2 : (k : Int) < (n : Int) := by omega
          by_cases he : X[k] = Y[k]
          · have HP2 := Lib.hid (same_first hx hy HP.out he)
            have hNE : Hid (∀ W, (binOp .neq 97 (.agg L1.toArray) (.agg L2.toArray)).run Tryz.prog W = .ok (.bool false) W) := Lib.hid fun W => by rw [hne.out W, decide_eq_true he]; rfl
            clear he hne HP hv1 hv2 hx hy hq1 hq2
            go_wp2_with fail
            try (apply wp_seq_k; intro K_ HK_)
            have hS0 : Below wr.heap.size wr wr.drew := (Below.refl _ _).drew
            refine wp_region_held_drew (S := fun w' => Below wr.heap.size wr w') (by kernel_rfl) hS0 (fun hHeld0 => ?_)
            refine wpAnyH_take (i := 0) (oi := ⟨some 27, _, _, _, _, _⟩) (v := ?_) rfl (by kernel_rfl) (by kernel_rfl) (by kernel_rfl) (fun _ _ _ h => h) (Or.inl ⟨by rfl, ?_⟩) (by assumption) ?_
            rotate_left
            · intro w' hSw
              go_simp
              try with_reducible rfl
            try go_frame
            refine wpAnyH_take (i := 1) (oi := ⟨some 28, _, _, _, _, _⟩) (v := ?_) rfl (by kernel_rfl) (by kernel_rfl) (by kernel_rfl) (fun _ _ _ h => h) (Or.inl ⟨by rfl, ?_⟩) (by assumption) ?_
            rotate_left
            · intro w' hSw
              have c1 := (HK1r.out.on hSw).cell 1 (v := .slice (some ⟨b1, o1, none⟩) n c) rfl
              go_simp
              try with_reducible rfl
            try go_frame
            refine wpAnyH_take (i := 2) (oi := ⟨some 29, _, _, _, _, _⟩) (v := ?_) rfl (by kernel_rfl) (by kernel_rfl) (by kernel_rfl) (fun _ _ _ h => h) (Or.inl ⟨by rfl, ?_⟩) (by assumption) ?_
            rotate_left
            · intro w' hSw
              go_simp
              try with_reducible rfl
            try go_frame
            refine wpAnyH_take (i := 3) (oi := ⟨some 30, _, _, _, _, _⟩) (v := ?_) rfl (by kernel_rfl) (by kernel_rfl) (by kernel_rfl) (fun _ _ _ h => h) (Or.inl ⟨by rfl, ?_⟩) (by assumption) ?_
            rotate_left
            · intro w' hSw
              go_simp
              try with_reducible rfl
            try go_frame
            refine wpAnyH_take (i := 4) (oi := ⟨some 31, _, _, _, _, _⟩) (v := _) rfl (by kernel_rfl) (by kernel_rfl) (by kernel_rfl) (fun _ _ _ h => h) (yieldsIf_load_mid (by rfl) 97 _ rfl b1 (o1 + k * 7) rfl L1 _ (fun w' hSw => range_below hr1.out hSw hb1) Tryz.underlying97 rfl (by rw [hl1.out]; exact ez_Sat.out)) (by assumption) ?_
            try go_frame
            refine wpAnyH_take (i := 5) (oi := ⟨some 32, _, _, _, _, _⟩) (v := ?_) rfl (by kernel_rfl) (by kernel_rfl) (by kernel_rfl) (fun _ _ _ h => h) (Or.inl ⟨by rfl, ?_⟩) (by assumption) ?_
            rotate_left
            · intro w' hSw
              go_simp
              try with_reducible rfl
            try go_frame
            refine wpAnyH_take (i := 6) (oi := ⟨some 33, _, _, _, _, _⟩) (v := ?_) rfl (by kernel_rfl) (by kernel_rfl) (by kernel_rfl) (fun _ _ _ h => h) (Or.inl ⟨by rfl, ?_⟩) (by assumption) ?_
            rotate_left
            · intro w' hSw
              have c2 := (HK2r.out.on hSw).cell 1 (v := .slice (some ⟨b2, o2, none⟩) n d) rfl
              go_simp
              try with_reducible rfl
            try go_frame
            refine wpAnyH_take (i := 7) (oi := ⟨some 34, _, _, _, _, _⟩) (v := ?_) rfl (by kernel_rfl) (by kernel_rfl) (by kernel_rfl) (fun _ _ _ h => h) (Or.inl ⟨by rfl, ?_⟩) (by assumption) ?_
            rotate_left
            · intro w' hSw
              go_simp
              try with_reducible rfl
            try go_frame
            refine wpAnyH_take (i := 8) (oi := ⟨some 35, _, _, _, _, _⟩) (v := ?_) rfl (by kernel_rfl) (by kernel_rfl) (by kernel_rfl) (fun _ _ _ h => h) (Or.inl ⟨by rfl, ?_⟩) (by assumption) ?_
            rotate_left
            · intro w' hSw
              go_simp
              try with_reducible rfl
            try go_frame
            refine wpAnyH_take (i := 9) (oi := ⟨some 36, _, _, _, _, _⟩) (v := _) rfl (by kernel_rfl) (by kernel_rfl) (by kernel_rfl) (fun _ _ _ h => h) (yieldsIf_load_mid (by rfl) 97 _ rfl b2 (o2 + k * 7) rfl L2 _ (fun w' hSw => range_below hr2.out hSw hb2) Tryz.underlying97 rfl (by rw [hl2.out]; exact ez_Sat.out)) (by assumption) ?_
            try go_frame
            refine wpAnyH_take (i := 10) (oi := ⟨some 37, _, _, _, _, _⟩) (v := .bool false) rfl (by kernel_rfl) (by kernel_rfl) (by kernel_rfl) (fun _ _ _ h => h) (yieldsIf_binopE (by rfl) .neq 97 (.tmp 31) (.tmp 36) 97 rfl (u := .agg L1.toArray) (v := .agg L2.toArray) (by kernel_rfl) (by kernel_rfl) (fun W => by kernel_rfl) hNE.out) (by assumption) ?_
            try go_frame
            refine wpAnyH_done (by kernel_rfl) ?_ _
            try go_frame
            go_wp2_with fail
            go_roundg (n - (k + 1))
            case measure => omega
            case rel => exact ⟨k + 1, by omega, by omega, by go_num, HB.out.drew, HP2⟩
          · have HPN := Lib.hid (HPF.out (not_same hx hy he))
            have hNE : Hid (∀ W, (binOp .neq 97 (.agg L1.toArray) (.agg L2.toArray)).run Tryz.prog W = .ok (.bool true) W) := Lib.hid fun W => by rw [hne.out W, decide_eq_false he]; rfl
            clear he hne HP hv1 hv2 hx hy hq1 hq2 HPF HPT
            go_wp2_with fail
            try (apply wp_seq_k; intro K_ HK_)
            have hS0 : Below wr.heap.size wr wr.drew := (Below.refl _ _).drew
            refine wp_region_held_drew (S := fun w' => Below wr.heap.size wr w') (by kernel_rfl) hS0 (fun hHeld0 => ?_)
            refine wpAnyH_take (i := 0) (oi := ⟨some 27, _, _, _, _, _⟩) (v := ?_) rfl (by kernel_rfl) (by kernel_rfl) (by kernel_rfl) (fun _ _ _ h => h) (Or.inl ⟨by rfl, ?_⟩) (by assumption) ?_
            rotate_left
            · intro w' hSw
              go_simp
              try with_reducible rfl
            try go_frame
            refine wpAnyH_take (i := 1) (oi := ⟨some 28, _, _, _, _, _⟩) (v := ?_) rfl (by kernel_rfl) (by kernel_rfl) (by kernel_rfl) (fun _ _ _ h => h) (Or.inl ⟨by rfl, ?_⟩) (by assumption) ?_
            rotate_left
            · intro w' hSw
              have c1 := (HK1r.out.on hSw).cell 1 (v := .slice (some ⟨b1, o1, none⟩) n c) rfl
              go_simp
              try with_reducible rfl
            try go_frame
            refine wpAnyH_take (i := 2) (oi := ⟨some 29, _, _, _, _, _⟩) (v := ?_) rfl (by kernel_rfl) (by kernel_rfl) (by kernel_rfl) (fun _ _ _ h => h) (Or.inl ⟨by rfl, ?_⟩) (by assumption) ?_
            rotate_left
            · intro w' hSw
              go_simp
              try with_reducible rfl
            try go_frame
            refine wpAnyH_take (i := 3) (oi := ⟨some 30, _, _, _, _, _⟩) (v := ?_) rfl (by kernel_rfl) (by kernel_rfl) (by kernel_rfl) (fun _ _ _ h => h) (Or.inl ⟨by rfl, ?_⟩) (by assumption) ?_
            rotate_left
            · intro w' hSw
              go_simp
              try with_reducible rfl
            try go_frame
            refine wpAnyH_take (i := 4) (oi := ⟨some 31, _, _, _, _, _⟩) (v := _) rfl (by kernel_rfl) (by kernel_rfl) (by kernel_rfl) (fun _ _ _ h => h) (yieldsIf_load_mid (by rfl) 97 _ rfl b1 (o1 + k * 7) rfl L1 _ (fun w' hSw => range_below hr1.out hSw hb1) Tryz.underlying97 rfl (by rw [hl1.out]; exact ez_Sat.out)) (by assumption) ?_
            try go_frame
            refine wpAnyH_take (i := 5) (oi := ⟨some 32, _, _, _, _, _⟩) (v := ?_) rfl (by kernel_rfl) (by kernel_rfl) (by kernel_rfl) (fun _ _ _ h => h) (Or.inl ⟨by rfl, ?_⟩) (by assumption) ?_
            rotate_left
            · intro w' hSw
              go_simp
              try with_reducible rfl
            try go_frame
            refine wpAnyH_take (i := 6) (oi := ⟨some 33, _, _, _, _, _⟩) (v := ?_) rfl (by kernel_rfl) (by kernel_rfl) (by kernel_rfl) (fun _ _ _ h => h) (Or.inl ⟨by rfl, ?_⟩) (by assumption) ?_
            rotate_left
            · intro w' hSw
              have c2 := (HK2r.out.on hSw).cell 1 (v := .slice (some ⟨b2, o2, none⟩) n d) rfl
              go_simp
              try with_reducible rfl
            try go_frame
            refine wpAnyH_take (i := 7) (oi := ⟨some 34, _, _, _, _, _⟩) (v := ?_) rfl (by kernel_rfl) (by kernel_rfl) (by kernel_rfl) (fun _ _ _ h => h) (Or.inl ⟨by rfl, ?_⟩) (by assumption) ?_
            rotate_left
            · intro w' hSw
              go_simp
              try with_reducible rfl
            try go_frame
            refine wpAnyH_take (i := 8) (oi := ⟨some 35, _, _, _, _, _⟩) (v := ?_) rfl (by kernel_rfl) (by kernel_rfl) (by kernel_rfl) (fun _ _ _ h => h) (Or.inl ⟨by rfl, ?_⟩) (by assumption) ?_
            rotate_left
            · intro w' hSw
              go_simp
              try with_reducible rfl
            try go_frame
            refine wpAnyH_take (i := 9) (oi := ⟨some 36, _, _, _, _, _⟩) (v := _) rfl (by kernel_rfl) (by kernel_rfl) (by kernel_rfl) (fun _ _ _ h => h) (yieldsIf_load_mid (by rfl) 97 _ rfl b2 (o2 + k * 7) rfl L2 _ (fun w' hSw => range_below hr2.out hSw hb2) Tryz.underlying97 rfl (by rw [hl2.out]; exact ez_Sat.out)) (by assumption) ?_
            try go_frame
            refine wpAnyH_take (i := 10) (oi := ⟨some 37, _, _, _, _, _⟩) (v := .bool true) rfl (by kernel_rfl) (by kernel_rfl) (by kernel_rfl) (fun _ _ _ h => h) (yieldsIf_binopE (by rfl) .neq 97 (.tmp 31) (.tmp 36) 97 rfl (u := .agg L1.toArray) (v := .agg L2.toArray) (by kernel_rfl) (by kernel_rfl) (fun W => by kernel_rfl) hNE.out) (by assumption) ?_
            try go_frame
            refine wpAnyH_done (by kernel_rfl) ?_ _
            try go_frame
            go_wp2_with fail
            go_ret
            rw [HPN.out]
            exact ⟨rfl, HBw.out.drew⟩
        · have hkn : k = n := by omega
          subst hkn
          have HPN := Lib.hid (HPT.out (same_all (hX.out.trans hY.out.symm) (fun j hj => HP.out j (by rw [← hX.out]; exact hj))))
          clear HPT HPF
          go_wp2_with fail
          go_ret
          rw [HPN.out]
          exact ⟨rfl, HBw.out⟩
    · have hne : ((n : Int) != (m : Int)) = true := by rw [bne_iff_ne]; omega
      have HPN : Hid (decide (X = Y) = false) := Lib.hid (decide_eq_false fun e => hnm (by rw [← hX.out, ← hY.out, e]))
      clear hnm
      generalize decide (X = Y) = R at *
      go_enter Tryz.func33, Tryz.ntmps33
      go_upto_region 1 with (first
        | (refine wpList_box_new rfl _ _ rfl #[.int .i64 T, .slice A n c] rfl ?_; intro W1 hW; have HK1 := Lib.hid (Blk.newL (L := [.int .i64 T, .slice A n c]) hW rfl); have HB1 := Lib.hid hW.bel; clear hW)
        | (refine wpList_box_new rfl _ _ rfl #[.int .i64 T, .slice B m d] rfl ?_; intro W2 hW; have HK2 := Lib.hid (Blk.newL (L := [.int .i64 T, .slice B m d]) hW rfl); have HK12 := Lib.hid (HK1.out.on hW.bel); have HB2 := Lib.hid (bthen HB1.out hW.bel); clear hW))
      have g0 := HK12.out.cell 0 (v := .int .i64 T) rfl
      have g1 := HK12.out.cell 1 (v := .slice A n c) rfl
      have g2 := HK2.out.cell 0 (v := .int .i64 T) rfl
      have g3 := HK2.out.cell 1 (v := .slice B m d) rfl
      go_wp2_with fail
      go_ret
      rw [HPN.out]
      exact ⟨rfl, HB2.out⟩
  · have hne : (T != U) = true := by rw [bne_iff_ne]; exact hT
    rw [decide_eq_false hT, Bool.false_and]
    clear hT
    go_enter Tryz.func33, Tryz.ntmps33
    go_upto_region 1 with (first
      | (refine wpList_box_new rfl _ _ rfl #[.int .i64 T, .slice A n c] rfl ?_; intro W1 hW; have HK1 := Lib.hid (Blk.newL (L := [.int .i64 T, .slice A n c]) hW rfl); have HB1 := Lib.hid hW.bel; clear hW)
      | (refine wpList_box_new rfl _ _ rfl #[.int .i64 U, .slice B m d] rfl ?_; intro W2 hW; have HK2 := Lib.hid (Blk.newL (L := [.int .i64 U, .slice B m d]) hW rfl); have HK12 := Lib.hid (HK1.out.on hW.bel); have HB2 := Lib.hid (bthen HB1.out hW.bel); clear hW))
    have g0 := HK12.out.cell 0 (v := .int .i64 T) rfl
    have g2 := HK2.out.cell 0 (v := .int .i64 U) rfl
    go_wp2_with fail
    go_ret
    exact ⟨rfl, HB2.out⟩
set_option maxRecDepth 8000 in
set_option maxHeartbeats 1000000 in
theorem r20Same_eq (T U : Int) (A B : Option Addr) (n m c d : Nat) (X Y : List (List Lit)) (w : World) (hX : Hid (X.length = n)) (hY : Hid (Y.length = m)) (hA : Hid (SlK 100 2 (fun b => b < w.heap.size) w A X)) (hB : Hid (SlK 100 2 (fun b => b < w.heap.size) w B Y)) (hn : n ≤ maxLen) (hm : m ≤ maxLen) :
    Calls Tryz.prog 34 #[.agg #[.int .i64 T, .slice A n c], .agg #[.int .i64 U, .slice B m d]] w fun e w' => e = .returned (.bool (decide (T = U) && decide (X = Y))) ∧ Below w.heap.size w w' := by
  unfold maxLen at hn hm
  by_cases hT : T = U
  · subst hT
    rw [decide_eq_true (rfl : T = T), Bool.true_and]
    have hTT : (T != T) = false := by rw [bne_eq_false_iff_eq]
    by_cases hnm : n = m
    · subst hnm
      have hnn : ((n : Int) != (n : Int)) = false := by rw [bne_eq_false_iff_eq]
      have HPT : Hid (X = Y → decide (X = Y) = true) := Lib.hid fun h => decide_eq_true h
      have HPF : Hid (X ≠ Y → decide (X = Y) = false) := Lib.hid fun h => decide_eq_false h
      generalize decide (X = Y) = R at *
      go_enter Tryz.func34, Tryz.ntmps34
      go_upto_region 1 with (first
        | (refine wpList_box_new rfl _ _ rfl #[.int .i64 T, .slice A n c] rfl ?_; intro W1 hW; have HK1 := Lib.hid (Blk.newL (L := [.int .i64 T, .slice A n c]) hW rfl); have HB1 := Lib.hid hW.bel; clear hW)
        | (refine wpList_box_new rfl _ _ rfl #[.int .i64 T, .slice B n d] rfl ?_; intro W2 hW; have HK2 := Lib.hid (Blk.newL (L := [.int .i64 T, .slice B n d]) hW rfl); have HK12 := Lib.hid (HK1.out.on hW.bel); have HB2 := Lib.hid (bthen HB1.out hW.bel); clear hW))
      have g0 := HK12.out.cell 0 (v := .int .i64 T) rfl
      have g1 := HK12.out.cell 1 (v := .slice A n c) rfl
      have g2 := HK2.out.cell 0 (v := .int .i64 T) rfl
      have g3 := HK2.out.cell 1 (v := .slice B n d) rfl
      go_wp2_with fail
      clear g0 g1 g2 g3
      go_loopg [5] n (fun g s13 wr => ∃ k : Nat, k ≤ n ∧ n - k ≤ g ∧ s13 = .int .i64 k ∧ Hid (Below W2.heap.size W2 wr) ∧ Hid (∀ j, j < k → X[j]? = Y[j]?))
      case atStart => exact ⟨0, Nat.zero_le _, by omega, rfl, Below.refl _ _, fun j hj => absurd hj (Nat.not_lt_zero _)⟩
      case round =>
        obtain ⟨k, hk, hg, rfl, HB, HP⟩ := hrel
        have HK1r := Lib.hid (HK12.out.on HB.out)
        have HK2r := Lib.hid (HK2.out.on HB.out)
        have HBw := Lib.hid (bthen HB2.out HB.out)
        have g1 := HK1r.out.cell 1 (v := .slice A n c) rfl
        by_cases hlt : k < n
        · have hx : k < X.length := by rw [hX.out]; exact hlt
          have hy : k < Y.length := by rw [hY.out]; exact hlt
          obtain ⟨b1, o1, L1, hA1, hq1, hr1, hv1⟩ := hA.out k hx
          obtain ⟨b2, o2, L2, hA2, hq2, hr2, hv2⟩ := hB.out k hy
          subst hA1 hA2
          have hb1 : b1 < wr.heap.size := Nat.lt_of_lt_of_le hq1 HBw.out.size
          have hb2 : b2 < wr.heap.size := Nat.lt_of_lt_of_le hq2 HBw.out.size
          have hr1 := Lib.hid (range_below hr1 HBw.out hq1)
          have hr2 := Lib.hid (range_below hr2 HBw.out hq2)
          have hl1 := Lib.hid (hv1.struct_len Tryz.underlying100)
          have hl2 := Lib.hid (hv2.struct_len Tryz.underlying100)
          have hne := Lib.hid (neq_key (m := 10) Tryz.underlying100 (by kernel_rfl) (by decide) hv1 hv2)
          have i1 : (0 : Int) ≤ (k : Int) := Int.natCast_nonneg _
          have i2 : (k : Int) < (n : Int) := by omega
          by_cases he : X[k] = Y[k]
          · have HP2 := Lib.hid (same_first hx hy HP.out he)
            have hNE : Hid (∀ W, (binOp .neq 100 (.agg L1.toArray) (.agg L2.toArray)).run Tryz.prog W = .ok (.bool false) W) := Lib.hid fun W => by rw [hne.out W, decide_eq_true he]; rfl
            clear he hne HP hv1 hv2 hx hy hq1 hq2
            go_wp2_with fail
            try (apply wp_seq_k; intro K_ HK_)
            have hS0 : Below wr.heap.size wr wr.drew := (Below.refl _ _).drew
            refine wp_region_held_drew (S := fun w' => Below wr.heap.size wr w') (by kernel_rfl) hS0 (fun hHeld0 => ?_)
            refine wpAnyH_take (i := 0) (oi := ⟨some 27, _, _, _, _, _⟩) (v := ?_) rfl (by kernel_rfl) (by kernel_rfl) (by kernel_rfl) (fun _ _ _ h => h) (Or.inl ⟨by rfl, ?_⟩) (by assumption) ?_
            rotate_left
            · intro w' hSw
              go_simp
              try with_reducible rfl
            try go_frame
            refine wpAnyH_take (i := 1) (oi := ⟨some 28, _, _, _, _, _⟩) (v := ?_) rfl (by kernel_rfl) (by kernel_rfl) (by kernel_rfl) (fun _ _ _ h => h) (Or.inl ⟨by rfl, ?_⟩) (by assumption) ?_
            rotate_left
            · intro w' hSw
              have c1 := (HK1r.out.on hSw).cell 1 (v := .slice (some ⟨b1, o1, none⟩) n c) rfl
              go_simp
              try with_reducible rfl
            try go_frame
            refine wpAnyH_take (i := 2) (oi := ⟨some 29, _, _, _, _, _⟩) (v := ?_) rfl (by kernel_rfl) (by kernel_rfl) (by kernel_rfl) (fun _ _ _ h => h) (Or.inl ⟨by rfl, ?_⟩) (by assumption) ?_
            rotate_left
            · intro w' hSw
              go_simp
              try with_reducible rfl
            try go_frame
            refine wpAnyH_take (i := 3) (oi := ⟨some 30, _, _, _, _, _⟩) (v := ?_) rfl (by kernel_rfl) (by kernel_rfl) (by kernel_rfl) (fun _ _ _ h => h) (Or.inl ⟨by rfl, ?_⟩) (by assumption) ?_
            rotate_left
            · intro w' hSw
              go_simp
              try with_reducible rfl
            try go_frame
            refine wpAnyH_take (i := 4) (oi := ⟨some 31, _, _, _, _, _⟩) (v := _) rfl (by kernel_rfl) (by kernel_rfl) (by kernel_rfl) (fun _ _ _ h => h) (yieldsIf_load_mid (by rfl) 100 _ rfl b1 (o1 + k * 2) rfl L1 _ (fun w' hSw => range_below hr1.out hSw hb1) Tryz.underlying100 rfl (by rw [hl1.out]; exact ez_Pair.out)) (by assumption) ?_
            try go_frame
            refine wpAnyH_take (i := 5) (oi := ⟨some 32, _, _, _, _, _⟩) (v := ?_) rfl (by kernel_rfl) (by kernel_rfl) (by kernel_rfl) (fun _ _ _ h => h) (Or.inl ⟨by rfl, ?_⟩) (by assumption) ?_
            rotate_left
            · intro w' hSw
              go_simp
              try with_reducible rfl
            try go_frame
            refine wpAnyH_take (i := 6) (oi := ⟨some 33, _, _, _, _, _⟩) (v := ?_) rfl (by kernel_rfl) (by kernel_rfl) (by kernel_rfl) (fun _ _ _ h => h) (Or.inl ⟨by rfl, ?_⟩) (by assumption) ?_
            rotate_left
            · intro w' hSw
              have c2 := (HK2r.out.on hSw).cell 1 (v := .slice (some ⟨b2, o2, none⟩) n d) rfl
              go_simp
              try with_reducible rfl
            try go_frame
            refine wpAnyH_take (i := 7) (oi := ⟨some 34, _, _, _, _, _⟩) (v := ?_) rfl (by kernel_rfl) (by kernel_rfl) (by kernel_rfl) (fun _ _ _ h => h) (Or.inl ⟨by rfl, ?_⟩) (by assumption) ?_
            rotate_left
            · intro w' hSw
              go_simp
              try with_reducible rfl
            try go_frame
            refine wpAnyH_take (i := 8) (oi := ⟨some 35, _, _, _, _, _⟩) (v := ?_) rfl (by kernel_rfl) (by kernel_rfl) (by kernel_rfl) (fun _ _ _ h => h) (Or.inl ⟨by rfl, ?_⟩) (by assumption) ?_
            rotate_left
            · intro w' hSw
              go_simp
              try with_reducible rfl
            try go_frame
            refine wpAnyH_take (i := 9) (oi := ⟨some 36, _, _, _, _, _⟩) (v := _) rfl (by kernel_rfl) (by kernel_rfl) (by kernel_rfl) (fun _ _ _ h => h) (yieldsIf_load_mid (by rfl) 100 _ rfl b2 (o2 + k * 2) rfl L2 _ (fun w' hSw => range_below hr2.out hSw hb2) Tryz.underlying100 rfl (by rw [hl2.out]; exact ez_Pair.out)) (by assumption) ?_
            try go_frame
            refine wpAnyH_take (i := 10) (oi := ⟨some 37, _, _, _, _, _⟩) (v := .bool false) rfl (by kernel_rfl) (by kernel_rfl) (by kernel_rfl) (fun _ _ _ h => h) (yieldsIf_binopE (by rfl) .neq 100 (.tmp 31) (.tmp 36) 100 rfl (u := .agg L1.toArray) (v := .agg L2.toArray) (by kernel_rfl) (by kernel_rfl) (fun W => by kernel_rfl) hNE.out) (by assumption) ?_
            try go_frame
            refine wpAnyH_done (by kernel_rfl) ?_ _
            try go_frame
            go_wp2_with fail
            go_roundg (n - (k + 1))
            case measure => omega
            case rel => exact ⟨k + 1, by omega, by omega, by go_num, HB.out.drew, HP2⟩
          · have HPN := Lib.hid (HPF.out (not_same hx hy he))
            have hNE : Hid (∀ W, (binOp .neq 100 (.agg L1.toArray) (.agg L2.toArray)).run Tryz.prog W = .ok (.bool true) W) := Lib.hid fun W => by rw [hne.out W, decide_eq_false he]; rfl
            clear he hne HP hv1 hv2 hx hy hq1 hq2 HPF HPT
            go_wp2_with fail
            try (apply wp_seq_k; intro K_ HK_)
            have hS0 : Below wr.heap.size wr wr.drew := (Below.refl _ _).drew
            refine wp_region_held_drew (S := fun w' => Below wr.heap.size wr w') (by kernel_rfl) hS0 (fun hHeld0 => ?_)
            refine wpAnyH_take (i := 0) (oi := ⟨some 27, _, _, _, _, _⟩) (v := ?_) rfl (by kernel_rfl) (by kernel_rfl) (by kernel_rfl) (fun _ _ _ h => h) (Or.inl ⟨by rfl, ?_⟩) (by assumption) ?_
            rotate_left
            · intro w' hSw
              go_simp
              try with_reducible rfl
            try go_frame
            refine wpAnyH_take (i := 1) (oi := ⟨some 28, _, _, _, _, _⟩) (v := ?_) rfl (by kernel_rfl) (by kernel_rfl) (by kernel_rfl) (fun _ _ _ h => h) (Or.inl ⟨by rfl, ?_⟩) (by assumption) ?_
            rotate_left
            · intro w' hSw
              have c1 := (HK1r.out.on hSw).cell 1 (v := .slice (some ⟨b1, o1, none⟩) n c) rfl
              go_simp
              try with_reducible rfl
            try go_frame
            refine wpAnyH_take (i := 2) (oi := ⟨some 29, _, _, _, _, _⟩) (v := ?_) rfl (by kernel_rfl) (by kernel_rfl) (by kernel_rfl) (fun _ _ _ h => h) (Or.inl ⟨by rfl, ?_⟩) (by assumption) ?_
            rotate_left
            · intro w' hSw
              go_simp
              try with_reducible rfl
            try go_frame
            refine wpAnyH_take (i := 3) (oi := ⟨some 30, _, _, _, _, _⟩) (v := ?_) rfl (by kernel_rfl) (by kernel_rfl) (by kernel_rfl) (fun _ _ _ h => h) (Or.inl ⟨by rfl, ?_⟩) (by assumption) ?_
            rotate_left
            · intro w' hSw
              go_simp
              try with_reducible rfl
            try go_frame
            refine wpAnyH_take (i := 4) (oi := ⟨some 31, _, _, _, _, _⟩) (v := _) rfl (by kernel_rfl) (by kernel_rfl) (by kernel_rfl) (fun _ _ _ h => h) (yieldsIf_load_mid (by rfl) 100 _ rfl b1 (o1 + k * 2) rfl L1 _ (fun w' hSw => range_below hr1.out hSw hb1) Tryz.underlying100 rfl (by rw [hl1.out]; exact ez_Pair.out)) (by assumption) ?_
            try go_frame
            refine wpAnyH_take (i := 5) (oi := ⟨some 32, _, _, _, _, _⟩) (v := ?_) rfl (by kernel_rfl) (by kernel_rfl) (by kernel_rfl) (fun _ _ _ h => h) (Or.inl ⟨by rfl, ?_⟩) (by assumption) ?_
            rotate_left
            · intro w' hSw
              go_simp
              try with_reducible rfl
            try go_frame
            refine wpAnyH_take (i := 6) (oi := ⟨some 33, _, _, _, _, _⟩) (v := ?_) rfl (by kernel_rfl) (by kernel_rfl) (by kernel_rfl) (fun _ _ _ h => h) (Or.inl ⟨by rfl, ?_⟩) (by assumption) ?_
            rotate_left
            · intro w' hSw
              have c2 := (HK2r.out.on hSw).cell 1 (v := .slice (some ⟨b2, o2, none⟩) n d) rfl
              go_simp
              try with_reducible rfl
            try go_frame
            refine wpAnyH_take (i := 7) (oi := ⟨some 34, _, _, _, _, _⟩) (v := ?_) rfl (by kernel_rfl) (by kernel_rfl) (by kernel_rfl) (fun _ _ _ h => h) (Or.inl ⟨by rfl, ?_⟩) (by assumption) ?_
            rotate_left
            · intro w' hSw
              go_simp
              try with_reducible rfl
            try go_frame
            refine wpAnyH_take (i := 8) (oi := ⟨some 35, _, _, _, _, _⟩) (v := ?_) rfl (by kernel_rfl) (by kernel_rfl) (by kernel_rfl) (fun _ _ _ h => h) (Or.inl ⟨by rfl, ?_⟩) (by assumption) ?_
            rotate_left
            · intro w' hSw
              go_simp
              try with_reducible rfl
            try go_frame
            refine wpAnyH_take (i := 9) (oi := ⟨some 36, _, _, _, _, _⟩) (v := _) rfl (by kernel_rfl) (by kernel_rfl) (by kernel_rfl) (fun _ _ _ h => h) (yieldsIf_load_mid (by rfl) 100 _ rfl b2 (o2 + k * 2) rfl L2 _ (fun w' hSw => range_below hr2.out hSw hb2) Tryz.underlying100 rfl (by rw [hl2.out]; exact ez_Pair.out)) (by assumption) ?_
            try go_frame
            refine wpAnyH_take (i := 10) (oi := ⟨some 37, _, _, _, _, _⟩) (v := .bool true) rfl (by kernel_rfl) (by kernel_rfl) (by kernel_rfl) (fun _ _ _ h => h) (yieldsIf_binopE (by rfl) .neq 100 (.tmp 31) (.tmp 36) 100 rfl (u := .agg L1.toArray) (v := .agg L2.toArray) (by kernel_rfl) (by kernel_rfl) (fun W => by kernel_rfl) hNE.out) (by assumption) ?_
            try go_frame
            refine wpAnyH_done (by kernel_rfl) ?_ _
            try go_frame
            go_wp2_with fail
            go_ret
            rw [HPN.out]
            exact ⟨rfl, HBw.out.drew⟩
        · have hkn : k = n := by omega
          subst hkn
          have HPN := Lib.hid (HPT.out (same_all (hX.out.trans hY.out.symm) (fun j hj => HP.out j (by rw [← hX.out]; exact hj))))
          clear HPT HPF
          go_wp2_with fail
          go_ret
          rw [HPN.out]
          exact ⟨rfl, HBw.out⟩
    · have hne : ((n : Int) != (m : Int)) = true := by rw [bne_iff_ne]; omega
      have HPN : Hid (decide (X = Y) = false) := Lib.hid (decide_eq_false fun e => hnm (by rw [← hX.out, ← hY.out, e]))
      clear hnm
      generalize decide (X = Y) = R at *
      go_enter Tryz.func34, Tryz.ntmps34
      go_upto_region 1 with (first
        | (refine wpList_box_new rfl _ _ rfl #[.int .i64 T, .slice A n c] rfl ?_; intro W1 hW; have HK1 := Lib.hid (Blk.newL (L := [.int .i64 T, .slice A n c]) hW rfl); have HB1 := Lib.hid hW.bel; clear hW)
        | (refine wpList_box_new rfl _ _ rfl #[.int .i64 T, .slice B m d] rfl ?_; intro W2 hW; have HK2 := Lib.hid (Blk.newL (L := [.int .i64 T, .slice B m d]) hW rfl); have HK12 := Lib.hid (HK1.out.on hW.bel); have HB2 := Lib.hid (bthen HB1.out hW.bel); clear hW))
      have g0 := HK12.out.cell 0 (v := .int .i64 T) rfl
      have g1 := HK12.out.cell 1 (v := .slice A n c) rfl
      have g2 := HK2.out.cell 0 (v := .int .i64 T) rfl
      have g3 := HK2.out.cell 1 (v := .slice B m d) rfl
      go_wp2_with fail
      go_ret
      rw [HPN.out]
      exact ⟨rfl, HB2.out⟩
  · have hne : (T != U) = true := by rw [bne_iff_ne]; exact hT
    rw [decide_eq_false hT, Bool.false_and]
    clear hT
    go_enter Tryz.func34, Tryz.ntmps34
    go_upto_region 1 with (first
      | (refine wpList_box_new rfl _ _ rfl #[.int .i64 T, .slice A n c] rfl ?_; intro W1 hW; have HK1 := Lib.hid (Blk.newL (L := [.int .i64 T, .slice A n c]) hW rfl); have HB1 := Lib.hid hW.bel; clear hW)
      | (refine wpList_box_new rfl _ _ rfl #[.int .i64 U, .slice B m d] rfl ?_; intro W2 hW; have HK2 := Lib.hid (Blk.newL (L := [.int .i64 U, .slice B m d]) hW rfl); have HK12 := Lib.hid (HK1.out.on hW.bel); have HB2 := Lib.hid (bthen HB1.out hW.bel); clear hW))
    have g0 := HK12.out.cell 0 (v := .int .i64 T) rfl
    have g2 := HK2.out.cell 0 (v := .int .i64 U) rfl
    go_wp2_with fail
    go_ret
    exact ⟨rfl, HB2.out⟩
end Go.Proofs.YtafkadhijljmkaaGreat
