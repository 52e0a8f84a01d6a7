/- slices.Equal over structs that can be compared. Printed by geneq.py. -/
import Derived.Test.YtafkadhijljmkaaGreatEql
import Derived.Deep.LoopGhost
import Derived.IntWalk
namespace Go.Proofs.YtafkadhijljmkaaGreat
set_option linter.unusedVariables false
open Go.RowKit

theorem same_first {X Y : List (List Lit)} {k : Nat} (hX : k < X.length) (hY : k < Y.length) (hp : ∀ j, j < k → X[j]? = Y[j]?) (h : X[k] = Y[k]) : ∀ j, j < k + 1 → X[j]? = Y[j]? := fun j hj => by
  rcases Nat.lt_or_ge j k with q | q
  · exact hp j q
  · obtain rfl : j = k := by omega
    rw [List.getElem?_eq_getElem hX, List.getElem?_eq_getElem hY, h]
theorem same_all {X Y : List (List Lit)} (hl : X.length = Y.length) (hp : ∀ j, j < X.length → X[j]? = Y[j]?) : X = Y := by
  apply List.ext_getElem?
  intro j
  rcases Nat.lt_or_ge j X.length with q | q
  · exact hp j q
  · rw [List.getElem?_eq_none q, List.getElem?_eq_none (by omega)]
theorem not_same {X Y : List (List Lit)} {k : Nat} (hX : k < X.length) (hY : k < Y.length) (h : X[k] ≠ Y[k]) : X ≠ Y := fun e => by
  subst e
  exact h rfl
theorem ez_Sat : Hid ((Tryz.prog.info? 97).map (·.size) = some (Tryz.prog.cellsOf 97)) := Lib.hid (by kernel_rfl)
set_option maxRecDepth 8000 in
set_option maxHeartbeats 1000000 in
theorem slEq_Sat (A B : Option Addr) (n m c d : Nat) (X Y : List (List Lit)) (w : World) (hX : Hid (X.length = n)) (hY : Hid (Y.length = m)) (hA : Hid (SlK 97 7 (fun b => b < w.heap.size) w A X)) (hB : Hid (SlK 97 7 (fun b => b < w.heap.size) w B Y)) (hn : n ≤ maxLen) (hm : m ≤ maxLen) :
    Calls Tryz.prog 28 #[.slice A n c, .slice B m d] w fun e w' => e = .returned (.bool (decide (X = Y))) ∧ Below w.heap.size w w' := by
  unfold maxLen at hn hm
  by_cases hnm : n = m
  · subst hnm
    have HPT : Hid (X = Y → decide (X = Y) = true) := Lib.hid fun h => decide_eq_true h
    have HPF : Hid (X ≠ Y → decide (X = Y) = false) := Lib.hid fun h => decide_eq_false h
    generalize decide (X = Y) = R at *
    go_enter Tryz.func28, Tryz.ntmps28
    go_wp2_with fail
    go_loopg [13] n (fun g s13 wr => ∃ k : Nat, k ≤ n ∧ n - k ≤ g ∧ s13 = .int .i64 k ∧ Hid (Below w.heap.size w wr) ∧ Hid (∀ j, j < k → X[j]? = Y[j]?))
    case atStart => exact ⟨0, Nat.zero_le _, by omega, rfl, Below.refl _ _, fun j hj => absurd hj (Nat.not_lt_zero _)⟩
    case round =>
      obtain ⟨k, hk, hg, rfl, HB, HP⟩ := hrel
      by_cases hlt : k < n
      · have hx : k < X.length := by rw [hX.out]; exact hlt
        have hy : k < Y.length := by rw [hY.out]; exact hlt
        obtain ⟨b1, o1, L1, hA1, hq1, hr1, hv1⟩ := hA.out k hx
        obtain ⟨b2, o2, L2, hA2, hq2, hr2, hv2⟩ := hB.out k hy
        subst hA1 hA2
        have hb1 : b1 < wr.heap.size := Nat.lt_of_lt_of_le hq1 HB.out.size
        have hb2 : b2 < wr.heap.size := Nat.lt_of_lt_of_le hq2 HB.out.size
        have hr1 := Lib.hid (range_below hr1 HB.out hq1)
        have hr2 := Lib.hid (range_below hr2 HB.out hq2)
        have hl1 := Lib.hid (hv1.struct_len Tryz.underlying97)
        have hl2 := Lib.hid (hv2.struct_len Tryz.underlying97)
        have hne := Lib.hid (neq_key (m := 10) Tryz.underlying97 (by kernel_rfl) (by decide) hv1 hv2)
        have i1 : (0 : Int) ≤ (k : Int) := Int.natCast_nonneg _
        have i2 : (k : Int) < (n : Int) := by omega
        by_cases he : X[k] = Y[k]
        · have HP2 := Lib.hid (same_first hx hy HP.out he)
          have hNE : Hid (∀ W, (binOp .neq 97 (.agg L1.toArray) (.agg L2.toArray)).run Tryz.prog W = .ok (.bool false) W) := Lib.hid fun W => by rw [hne.out W, decide_eq_true he]; rfl
          clear he hne HP hv1 hv2 hx hy hq1 hq2
          go_wp2_with fail
          try (apply wp_seq_k; intro K_ HK_)
          have hS0 : Below wr.heap.size wr wr.drew := (Below.refl _ _).drew
          refine wp_region_held_drew (S := fun w' => Below wr.heap.size wr w') (by kernel_rfl) hS0 (fun hHeld0 => ?_)
          refine wpAnyH_take (i := 0) (oi := ⟨some 16, _, _, _, _, _⟩) (v := ?_) rfl (by kernel_rfl) (by kernel_rfl) (by kernel_rfl) (fun _ _ _ h => h) (Or.inl ⟨by rfl, ?_⟩) (by assumption) ?_
          rotate_left
          · intro w' hSw
            go_simp
            try with_reducible rfl
          try go_frame
          refine wpAnyH_take (i := 1) (oi := ⟨some 17, _, _, _, _, _⟩) (v := ?_) rfl (by kernel_rfl) (by kernel_rfl) (by kernel_rfl) (fun _ _ _ h => h) (Or.inl ⟨by rfl, ?_⟩) (by assumption) ?_
          rotate_left
          · intro w' hSw
            go_simp
            try with_reducible rfl
          try go_frame
          refine wpAnyH_take (i := 2) (oi := ⟨some 18, _, _, _, _, _⟩) (v := ?_) rfl (by kernel_rfl) (by kernel_rfl) (by kernel_rfl) (fun _ _ _ h => h) (Or.inl ⟨by rfl, ?_⟩) (by assumption) ?_
          rotate_left
          · intro w' hSw
            go_simp
            try with_reducible rfl
          try go_frame
          refine wpAnyH_take (i := 3) (oi := ⟨some 19, _, _, _, _, _⟩) (v := _) rfl (by kernel_rfl) (by kernel_rfl) (by kernel_rfl) (fun _ _ _ h => h) (yieldsIf_load_mid (by rfl) 97 _ rfl b1 (o1 + k * 7) rfl L1 _ (fun w' hSw => range_below hr1.out hSw hb1) Tryz.underlying97 rfl (by rw [hl1.out]; exact ez_Sat.out)) (by assumption) ?_
          try go_frame
          refine wpAnyH_take (i := 4) (oi := ⟨some 20, _, _, _, _, _⟩) (v := ?_) rfl (by kernel_rfl) (by kernel_rfl) (by kernel_rfl) (fun _ _ _ h => h) (Or.inl ⟨by rfl, ?_⟩) (by assumption) ?_
          rotate_left
          · intro w' hSw
            go_simp
            try with_reducible rfl
          try go_frame
          refine wpAnyH_take (i := 5) (oi := ⟨some 21, _, _, _, _, _⟩) (v := ?_) rfl (by kernel_rfl) (by kernel_rfl) (by kernel_rfl) (fun _ _ _ h => h) (Or.inl ⟨by rfl, ?_⟩) (by assumption) ?_
          rotate_left
          · intro w' hSw
            go_simp
            try with_reducible rfl
          try go_frame
          refine wpAnyH_take (i := 6) (oi := ⟨some 22, _, _, _, _, _⟩) (v := ?_) rfl (by kernel_rfl) (by kernel_rfl) (by kernel_rfl) (fun _ _ _ h => h) (Or.inl ⟨by rfl, ?_⟩) (by assumption) ?_
          rotate_left
          · intro w' hSw
            go_simp
            try with_reducible rfl
          try go_frame
          refine wpAnyH_take (i := 7) (oi := ⟨some 23, _, _, _, _, _⟩) (v := _) rfl (by kernel_rfl) (by kernel_rfl) (by kernel_rfl) (fun _ _ _ h => h) (yieldsIf_load_mid (by rfl) 97 _ rfl b2 (o2 + k * 7) rfl L2 _ (fun w' hSw => range_below hr2.out hSw hb2) Tryz.underlying97 rfl (by rw [hl2.out]; exact ez_Sat.out)) (by assumption) ?_
          try go_frame
          refine wpAnyH_take (i := 8) (oi := ⟨some 24, _, _, _, _, _⟩) (v := .bool false) rfl (by kernel_rfl) (by kernel_rfl) (by kernel_rfl) (fun _ _ _ h => h) (yieldsIf_binopE (by rfl) .neq 97 (.tmp 19) (.tmp 23) 97 rfl (u := .agg L1.toArray) (v := .agg L2.toArray) (by kernel_rfl) (by kernel_rfl) (fun W => by kernel_rfl) hNE.out) (by assumption) ?_
          try go_frame
          refine wpAnyH_done (by kernel_rfl) ?_ _
          try go_frame
          go_wp2_with fail
          go_roundg (n - (k + 1))
          case measure => omega
          case rel => exact ⟨k + 1, by omega, by omega, by go_num, HB.out.drew, HP2⟩
        · have HPN := Lib.hid (HPF.out (not_same hx hy he))
          have hNE : Hid (∀ W, (binOp .neq 97 (.agg L1.toArray) (.agg L2.toArray)).run Tryz.prog W = .ok (.bool true) W) := Lib.hid fun W => by rw [hne.out W, decide_eq_false he]; rfl
          clear he hne HP hv1 hv2 hx hy hq1 hq2 HPF HPT
          go_wp2_with fail
          try (apply wp_seq_k; intro K_ HK_)
          have hS0 : Below wr.heap.size wr wr.drew := (Below.refl _ _).drew
          refine wp_region_held_drew (S := fun w' => Below wr.heap.size wr w') (by kernel_rfl) hS0 (fun hHeld0 => ?_)
          refine wpAnyH_take (i := 0) (oi := ⟨some 16, _, _, _, _, _⟩) (v := ?_) rfl (by kernel_rfl) (by kernel_rfl) (by kernel_rfl) (fun _ _ _ h => h) (Or.inl ⟨by rfl, ?_⟩) (by assumption) ?_
          rotate_left
          · intro w' hSw
            go_simp
            try with_reducible rfl
          try go_frame
          refine wpAnyH_take (i := 1) (oi := ⟨some 17, _, _, _, _, _⟩) (v := ?_) rfl (by kernel_rfl) (by kernel_rfl) (by kernel_rfl) (fun _ _ _ h => h) (Or.inl ⟨by rfl, ?_⟩) (by assumption) ?_
          rotate_left
          · intro w' hSw
            go_simp
            try with_reducible rfl
          try go_frame
          refine wpAnyH_take (i := 2) (oi := ⟨some 18, _, _, _, _, _⟩) (v := ?_) rfl (by kernel_rfl) (by kernel_rfl) (by kernel_rfl) (fun _ _ _ h => h) (Or.inl ⟨by rfl, ?_⟩) (by assumption) ?_
          rotate_left
          · intro w' hSw
            go_simp
            try with_reducible rfl
          try go_frame
          refine wpAnyH_take (i := 3) (oi := ⟨some 19, _, _, _, _, _⟩) (v := _) rfl (by kernel_rfl) (by kernel_rfl) (by kernel_rfl) (fun _ _ _ h => h) (yieldsIf_load_mid (by rfl) 97 _ rfl b1 (o1 + k * 7) rfl L1 _ (fun w' hSw => range_below hr1.out hSw hb1) Tryz.underlying97 rfl (by rw [hl1.out]; exact ez_Sat.out)) (by assumption) ?_
          try go_frame
          refine wpAnyH_take (i := 4) (oi := ⟨some 20, _, _, _, _, _⟩) (v := ?_) rfl (by kernel_rfl) (by kernel_rfl) (by kernel_rfl) (fun _ _ _ h => h) (Or.inl ⟨by rfl, ?_⟩) (by assumption) ?_
          rotate_left
          · intro w' hSw
            go_simp
            try with_reducible rfl
          try go_frame
          refine wpAnyH_take (i := 5) (oi := ⟨some 21, _, _, _, _, _⟩) (v := ?_) rfl (by kernel_rfl) (by kernel_rfl) (by kernel_rfl) (fun _ _ _ h => h) (Or.inl ⟨by rfl, ?_⟩) (by assumption) ?_
          rotate_left
          · intro w' hSw
            go_simp
            try with_reducible rfl
          try go_frame
          refine wpAnyH_take (i := 6) (oi := ⟨some 22, _, _, _, _, _⟩) (v := ?_) rfl (by kernel_rfl) (by kernel_rfl) (by kernel_rfl) (fun _ _ _ h => h) (Or.inl ⟨by rfl, ?_⟩) (by assumption) ?_
          rotate_left
          · intro w' hSw
            go_simp
            try with_reducible rfl
          try go_frame
          refine wpAnyH_take (i := 7) (oi := ⟨some 23, _, _, _, _, _⟩) (v := _) rfl (by kernel_rfl) (by kernel_rfl) (by kernel_rfl) (fun _ _ _ h => h) (yieldsIf_load_mid (by rfl) 97 _ rfl b2 (o2 + k * 7) rfl L2 _ (fun w' hSw => range_below hr2.out hSw hb2) Tryz.underlying97 rfl (by rw [hl2.out]; exact ez_Sat.out)) (by assumption) ?_
          try go_frame
          refine wpAnyH_take (i := 8) (oi := ⟨some 24, _, _, _, _, _⟩) (v := .bool true) rfl (by kernel_rfl) (by kernel_rfl) (by kernel_rfl) (fun _ _ _ h => h) (yieldsIf_binopE (by rfl) .neq 97 (.tmp 19) (.tmp 23) 97 rfl (u := .agg L1.toArray) (v := .agg L2.toArray) (by kernel_rfl) (by kernel_rfl) (fun W => by kernel_rfl) hNE.out) (by assumption) ?_
          try go_frame
          refine wpAnyH_done (by kernel_rfl) ?_ _
          try go_frame
          go_wp2_with fail
          go_ret
          rw [HPN.out]
          exact ⟨rfl, HB.out.drew⟩
      · have hkn : k = n := by omega
        subst hkn
        have HPN := Lib.hid (HPT.out (same_all (hX.out.trans hY.out.symm) (fun j hj => HP.out j (by rw [← hX.out]; exact hj))))
        clear HPT HPF
        go_wp2_with fail
        go_ret
        rw [HPN.out]
        exact ⟨rfl, HB.out⟩
  · have hne : ((n : Int) != (m : Int)) = true := by rw [bne_iff_ne]; omega
    have HPN : Hid (decide (X = Y) = false) := Lib.hid (decide_eq_false fun e => hnm (by rw [← hX.out, ← hY.out, e]))
    clear hnm
    generalize decide (X = Y) = R at *
    go_enter Tryz.func28, Tryz.ntmps28
    go_wp2_with fail
    go_ret
    rw [HPN.out]
    exact ⟨rfl, Below.refl _ _⟩
theorem ez_Pair : Hid ((Tryz.prog.info? 100).map (·.size) = some (Tryz.prog.cellsOf 100)) := Lib.hid (by kernel_rfl)
set_option maxRecDepth 8000 in
set_option maxHeartbeats 1000000 in
theorem slEq_Pair (A B : Option Addr) (n m c d : Nat) (X Y : List (List Lit)) (w : World) (hX : Hid (X.length = n)) (hY : Hid (Y.length = m)) (hA : Hid (SlK 100 2 (fun b => b < w.heap.size) w A X)) (hB : Hid (SlK 100 2 (fun b => b < w.heap.size) w B Y)) (hn : n ≤ maxLen) (hm : m ≤ maxLen) :
    Calls Tryz.prog 29 #[.slice A n c, .slice B m d] w fun e w' => e = .returned (.bool (decide (X = Y))) ∧ Below w.heap.size w w' := by
  unfold maxLen at hn hm
  by_cases hnm : n = m
  · subst hnm
    have HPT : Hid (X = Y → decide (X = Y) = true) := Lib.hid fun h => decide_eq_true h
    have HPF : Hid (X ≠ Y → decide (X = Y) = false) := Lib.hid fun h => decide_eq_false h
    generalize decide (X = Y) = R at *
    go_enter Tryz.func29, Tryz.ntmps29
    go_wp2_with fail
    go_loopg [13] n (fun g s13 wr => ∃ k : Nat, k ≤ n ∧ n - k ≤ g ∧ s13 = .int .i64 k ∧ Hid (Below w.heap.size w wr) ∧ Hid (∀ j, j < k → X[j]? = Y[j]?))
    case atStart => exact ⟨0, Nat.zero_le _, by omega, rfl, Below.refl _ _, fun j hj => absurd hj (Nat.not_lt_zero _)⟩
    case round =>
      obtain ⟨k, hk, hg, rfl, HB, HP⟩ := hrel
      by_cases hlt : k < n
      · have hx : k < X.length := by rw [hX.out]; exact hlt
        have hy : k < Y.length := by rw [hY.out]; exact hlt
        obtain ⟨b1, o1, L1, hA1, hq1, hr1, hv1⟩ := hA.out k hx
        obtain ⟨b2, o2, L2, hA2, hq2, hr2, hv2⟩ := hB.out k hy
        subst hA1 hA2
        have hb1 : b1 < wr.heap.size := Nat.lt_of_lt_of_le hq1 HB.out.size
        have hb2 : b2 < wr.heap.size := Nat.lt_of_lt_of_le hq2 HB.out.size
        have hr1 := Lib.hid (range_below hr1 HB.out hq1)
        have hr2 := Lib.hid (range_below hr2 HB.out hq2)
        have hl1 := Lib.hid (hv1.struct_len Tryz.underlying100)
        have hl2 := Lib.hid (hv2.struct_len Tryz.underlying100)
        have hne := Lib.hid (neq_key (m := 10) Tryz.underlying100 (by kernel_rfl) (by decide) hv1 hv2)
        have i1 : (0 : Int) ≤ (k : Int) := Int.natCast_nonneg _
        have i2 : (k : Int) < (n : Int) := by omega
        by_cases he : X[k] = Y[k]
        · have HP2 := Lib.hid (same_first hx hy HP.out he)
          have hNE : Hid (∀ W, (binOp .neq 100 (.agg L1.toArray) (.agg L2.toArray)).run Tryz.prog W = .ok (.bool false) W) := Lib.hid fun W => by rw [hne.out W, decide_eq_true he]; rfl
          clear he hne HP hv1 hv2 hx hy hq1 hq2
          go_wp2_with fail
          try (apply wp_seq_k; intro K_ HK_)
          have hS0 : Below wr.heap.size wr wr.drew := (Below.refl _ _).drew
          refine wp_region_held_drew (S := fun w' => Below wr.heap.size wr w') (by kernel_rfl) hS0 (fun hHeld0 => ?_)
          refine wpAnyH_take (i := 0) (oi := ⟨some 16, _, _, _, _, _⟩) (v := ?_) rfl (by kernel_rfl) (by kernel_rfl) (by kernel_rfl) (fun _ _ _ h => h) (Or.inl ⟨by rfl, ?_⟩) (by assumption) ?_
          rotate_left
          · intro w' hSw
            go_simp
            try with_reducible rfl
          try go_frame
          refine wpAnyH_take (i := 1) (oi := ⟨some 17, _, _, _, _, _⟩) (v := ?_) rfl (by kernel_rfl) (by kernel_rfl) (by kernel_rfl) (fun _ _ _ h => h) (Or.inl ⟨by rfl, ?_⟩) (by assumption) ?_
          rotate_left
          · intro w' hSw
            go_simp
            try with_reducible rfl
          try go_frame
          refine wpAnyH_take (i := 2) (oi := ⟨some 18, _, _, _, _, _⟩) (v := ?_) rfl (by kernel_rfl) (by kernel_rfl) (by kernel_rfl) (fun _ _ _ h => h) (Or.inl ⟨by rfl, ?_⟩) (by assumption) ?_
          rotate_left
          · intro w' hSw
            go_simp
            try with_reducible rfl
          try go_frame
          refine wpAnyH_take (i := 3) (oi := ⟨some 19, _, _, _, _, _⟩) (v := _) rfl (by kernel_rfl) (by kernel_rfl) (by kernel_rfl) (fun _ _ _ h => h) (yieldsIf_load_mid (by rfl) 100 _ rfl b1 (o1 + k * 2) rfl L1 _ (fun w' hSw => range_below hr1.out hSw hb1) Tryz.underlying100 rfl (by rw [hl1.out]; exact ez_Pair.out)) (by assumption) ?_
          try go_frame
          refine wpAnyH_take (i := 4) (oi := ⟨some 20, _, _, _, _, _⟩) (v := ?_) rfl (by kernel_rfl) (by kernel_rfl) (by kernel_rfl) (fun _ _ _ h => h) (Or.inl ⟨by rfl, ?_⟩) (by assumption) ?_
          rotate_left
          · intro w' hSw
            go_simp
            try with_reducible rfl
          try go_frame
          refine wpAnyH_take (i := 5) (oi := ⟨some 21, _, _, _, _, _⟩) (v := ?_) rfl (by kernel_rfl) (by kernel_rfl) (by kernel_rfl) (fun _ _ _ h => h) (Or.inl ⟨by rfl, ?_⟩) (by assumption) ?_
          rotate_left
          · intro w' hSw
            go_simp
            try with_reducible rfl
          try go_frame
          refine wpAnyH_take (i := 6) (oi := ⟨some 22, _, _, _, _, _⟩) (v := ?_) rfl (by kernel_rfl) (by kernel_rfl) (by kernel_rfl) (fun _ _ _ h => h) (Or.inl ⟨by rfl, ?_⟩) (by assumption) ?_
          rotate_left
          · intro w' hSw
            go_simp
            try with_reducible rfl
          try go_frame
          refine wpAnyH_take (i := 7) (oi := ⟨some 23, _, _, _, _, _⟩) (v := _) rfl (by kernel_rfl) (by kernel_rfl) (by kernel_rfl) (fun _ _ _ h => h) (yieldsIf_load_mid (by rfl) 100 _ rfl b2 (o2 + k * 2) rfl L2 _ (fun w' hSw => range_below hr2.out hSw hb2) Tryz.underlying100 rfl (by rw [hl2.out]; exact ez_Pair.out)) (by assumption) ?_
          try go_frame
          refine wpAnyH_take (i := 8) (oi := ⟨some 24, _, _, _, _, _⟩) (v := .bool false) rfl (by kernel_rfl) (by kernel_rfl) (by kernel_rfl) (fun _ _ _ h => h) (yieldsIf_binopE (by rfl) .neq 100 (.tmp 19) (.tmp 23) 100 rfl (u := .agg L1.toArray) (v := .agg L2.toArray) (by kernel_rfl) (by kernel_rfl) (fun W => by kernel_rfl) hNE.out) (by assumption) ?_
          try go_frame
          refine wpAnyH_done (by kernel_rfl) ?_ _
          try go_frame
          go_wp2_with fail
          go_roundg (n - (k + 1))
          case measure => omega
          case rel => exact ⟨k + 1, by omega, by omega, by go_num, HB.out.drew, HP2⟩
        · have HPN := Lib.hid (HPF.out (not_same hx hy he))
          have hNE : Hid (∀ W, (binOp .neq 100 (.agg L1.toArray) (.agg L2.toArray)).run Tryz.prog W = .ok (.bool true) W) := Lib.hid fun W => by rw [hne.out W, decide_eq_false he]; rfl
          clear he hne HP hv1 hv2 hx hy hq1 hq2 HPF HPT
          go_wp2_with fail
          try (apply wp_seq_k; intro K_ HK_)
          have hS0 : Below wr.heap.size wr wr.drew := (Below.refl _ _).drew
          refine wp_region_held_drew (S := fun w' => Below wr.heap.size wr w') (by kernel_rfl) hS0 (fun hHeld0 => ?_)
          refine wpAnyH_take (i := 0) (oi := ⟨some 16, _, _, _, _, _⟩) (v := ?_) rfl (by kernel_rfl) (by kernel_rfl) (by kernel_rfl) (fun _ _ _ h => h) (Or.inl ⟨by rfl, ?_⟩) (by assumption) ?_
          rotate_left
          · intro w' hSw
            go_simp
            try with_reducible rfl
          try go_frame
          refine wpAnyH_take (i := 1) (oi := ⟨some 17, _, _, _, _, _⟩) (v := ?_) rfl (by kernel_rfl) (by kernel_rfl) (by kernel_rfl) (fun _ _ _ h => h) (Or.inl ⟨by rfl, ?_⟩) (by assumption) ?_
          rotate_left
          · intro w' hSw
            go_simp
            try with_reducible rfl
          try go_frame
          refine wpAnyH_take (i := 2) (oi := ⟨some 18, _, _, _, _, _⟩) (v := ?_) rfl (by kernel_rfl) (by kernel_rfl) (by kernel_rfl) (fun _ _ _ h => h) (Or.inl ⟨by rfl, ?_⟩) (by assumption) ?_
          rotate_left
          · intro w' hSw
            go_simp
            try with_reducible rfl
          try go_frame
          refine wpAnyH_take (i := 3) (oi := ⟨some 19, _, _, _, _, _⟩) (v := _) rfl (by kernel_rfl) (by kernel_rfl) (by kernel_rfl) (fun _ _ _ h => h) (yieldsIf_load_mid (by rfl) 100 _ rfl b1 (o1 + k * 2) rfl L1 _ (fun w' hSw => range_below hr1.out hSw hb1) Tryz.underlying100 rfl (by rw [hl1.out]; exact ez_Pair.out)) (by assumption) ?_
          try go_frame
          refine wpAnyH_take (i := 4) (oi := ⟨some 20, _, _, _, _, _⟩) (v := ?_) rfl (by kernel_rfl) (by kernel_rfl) (by kernel_rfl) (fun _ _ _ h => h) (Or.inl ⟨by rfl, ?_⟩) (by assumption) ?_
          rotate_left
          · intro w' hSw
            go_simp
            try with_reducible rfl
          try go_frame
          refine wpAnyH_take (i := 5) (oi := ⟨some 21, _, _, _, _, _⟩) (v := ?_) rfl (by kernel_rfl) (by kernel_rfl) (by kernel_rfl) (fun _ _ _ h => h) (Or.inl ⟨by rfl, ?_⟩) (by assumption) ?_
          rotate_left
          · intro w' hSw
            go_simp
            try with_reducible rfl
          try go_frame
          refine wpAnyH_take (i := 6) (oi := ⟨some 22, _, _, _, _, _⟩) (v := ?_) rfl (by kernel_rfl) (by kernel_rfl) (by kernel_rfl) (fun _ _ _ h => h) (Or.inl ⟨by rfl, ?_⟩) (by assumption) ?_
          rotate_left
          · intro w' hSw
            go_simp
            try with_reducible rfl
          try go_frame
          refine wpAnyH_take (i := 7) (oi := ⟨some 23, _, _, _, _, _⟩) (v := _) rfl (by kernel_rfl) (by kernel_rfl) (by kernel_rfl) (fun _ _ _ h => h) (yieldsIf_load_mid (by rfl) 100 _ rfl b2 (o2 + k * 2) rfl L2 _ (fun w' hSw => range_below hr2.out hSw hb2) Tryz.underlying100 rfl (by rw [hl2.out]; exact ez_Pair.out)) (by assumption) ?_
          try go_frame
          refine wpAnyH_take (i := 8) (oi := ⟨some 24, _, _, _, _, _⟩) (v := .bool true) rfl (by kernel_rfl) (by kernel_rfl) (by kernel_rfl) (fun _ _ _ h => h) (yieldsIf_binopE (by rfl) .neq 100 (.tmp 19) (.tmp 23) 100 rfl (u := .agg L1.toArray) (v := .agg L2.toArray) (by kernel_rfl) (by kernel_rfl) (fun W => by kernel_rfl) hNE.out) (by assumption) ?_
          try go_frame
          refine wpAnyH_done (by kernel_rfl) ?_ _
          try go_frame
          go_wp2_with fail
          go_ret
          rw [HPN.out]
          exact ⟨rfl, HB.out.drew⟩
      · have hkn : k = n := by omega
        subst hkn
        have HPN := Lib.hid (HPT.out (same_all (hX.out.trans hY.out.symm) (fun j hj => HP.out j (by rw [← hX.out]; exact hj))))
        clear HPT HPF
        go_wp2_with fail
        go_ret
        rw [HPN.out]
        exact ⟨rfl, HB.out⟩
  · have hne : ((n : Int) != (m : Int)) = true := by rw [bne_iff_ne]; omega
    have HPN : Hid (decide (X = Y) = false) := Lib.hid (decide_eq_false fun e => hnm (by rw [← hX.out, ← hY.out, e]))
    clear hnm
    generalize decide (X = Y) = R at *
    go_enter Tryz.func29, Tryz.ntmps29
    go_wp2_with fail
    go_ret
    rw [HPN.out]
    exact ⟨rfl, Below.refl _ _⟩
theorem ez_View : Hid ((Tryz.prog.info? 121).map (·.size) = some (Tryz.prog.cellsOf 121)) := Lib.hid (by kernel_rfl)
set_option maxRecDepth 8000 in
set_option maxHeartbeats 1000000 in
theorem slEq_View (A B : Option Addr) (n m c d : Nat) (X Y : List (List Lit)) (w : World) (hX : Hid (X.length = n)) (hY : Hid (Y.length = m)) (hA : Hid (SlK 121 8 (fun b => b < w.heap.size) w A X)) (hB : Hid (SlK 121 8 (fun b => b < w.heap.size) w B Y)) (hn : n ≤ maxLen) (hm : m ≤ maxLen) :
    Calls Tryz.prog 50 #[.slice A n c, .slice B m d] w fun e w' => e = .returned (.bool (decide (X = Y))) ∧ Below w.heap.size w w' := by
  unfold maxLen at hn hm
  by_cases hnm : n = m
  · subst hnm
    have HPT : Hid (X = Y → decide (X = Y) = true) := Lib.hid fun h => decide_eq_true h
    have HPF : Hid (X ≠ Y → decide (X = Y) = false) := Lib.hid fun h => decide_eq_false h
    generalize decide (X = Y) = R at *
    go_enter Tryz.func50, Tryz.ntmps50
    go_wp2_with fail
    go_loopg [13] n (fun g s13 wr => ∃ k : Nat, k ≤ n ∧ n - k ≤ g ∧ s13 = .int .i64 k ∧ Hid (Below w.heap.size w wr) ∧ Hid (∀ j, j < k → X[j]? = Y[j]?))
    case atStart => exact ⟨0, Nat.zero_le _, by omega, rfl, Below.refl _ _, fun j hj => absurd hj (Nat.not_lt_zero _)⟩
    case round =>
      obtain ⟨k, hk, hg, rfl, HB, HP⟩ := hrel
      by_cases hlt : k < n
      · have hx : k < X.length := by rw [hX.out]; exact hlt
        have hy : k < Y.length := by rw [hY.out]; exact hlt
        obtain ⟨b1, o1, L1, hA1, hq1, hr1, hv1⟩ := hA.out k hx
        obtain ⟨b2, o2, L2, hA2, hq2, hr2, hv2⟩ := hB.out k hy
        subst hA1 hA2
        have hb1 : b1 < wr.heap.size := Nat.lt_of_lt_of_le hq1 HB.out.size
        have hb2 : b2 < wr.heap.size := Nat.lt_of_lt_of_le hq2 HB.out.size
        have hr1 := Lib.hid (range_below hr1 HB.out hq1)
        have hr2 := Lib.hid (range_below hr2 HB.out hq2)
        have hl1 := Lib.hid (hv1.struct_len Tryz.underlying121)
        have hl2 := Lib.hid (hv2.struct_len Tryz.underlying121)
        have hne := Lib.hid (neq_key (m := 10) Tryz.underlying121 (by kernel_rfl) (by decide) hv1 hv2)
        have i1 : (0 : Int) ≤ (k : Int) := Int.natCast_nonneg _
        have i2 : (k : Int) < (n : Int) := by omega
        by_cases he : X[k] = Y[k]
        · have HP2 := Lib.hid (same_first hx hy HP.out he)
          have hNE : Hid (∀ W, (binOp .neq 121 (.agg L1.toArray) (.agg L2.toArray)).run Tryz.prog W = .ok (.bool false) W) := Lib.hid fun W => by rw [hne.out W, decide_eq_true he]; rfl
          clear he hne HP hv1 hv2 hx hy hq1 hq2
          go_wp2_with fail
          try (apply wp_seq_k; intro K_ HK_)
          have hS0 : Below wr.heap.size wr wr.drew := (Below.refl _ _).drew
          refine wp_region_held_drew (S := fun w' => Below wr.heap.size wr w') (by kernel_rfl) hS0 (fun hHeld0 => ?_)
          refine wpAnyH_take (i := 0) (oi := ⟨some 16, _, _, _, _, _⟩) (v := ?_) rfl (by kernel_rfl) (by kernel_rfl) (by kernel_rfl) (fun _ _ _ h => h) (Or.inl ⟨by rfl, ?_⟩) (by assumption) ?_
          rotate_left
          · intro w' hSw
            go_simp
            try with_reducible rfl
          try go_frame
          refine wpAnyH_take (i := 1) (oi := ⟨some 17, _, _, _, _, _⟩) (v := ?_) rfl (by kernel_rfl) (by kernel_rfl) (by kernel_rfl) (fun _ _ _ h => h) (Or.inl ⟨by rfl, ?_⟩) (by assumption) ?_
          rotate_left
          · intro w' hSw
            go_simp
            try with_reducible rfl
          try go_frame
          refine wpAnyH_take (i := 2) (oi := ⟨some 18, _, _, _, _, _⟩) (v := ?_) rfl (by kernel_rfl) (by kernel_rfl) (by kernel_rfl) (fun _ _ _ h => h) (Or.inl ⟨by rfl, ?_⟩) (by assumption) ?_
          rotate_left
          · intro w' hSw
            go_simp
            try with_reducible rfl
          try go_frame
          refine wpAnyH_take (i := 3) (oi := ⟨some 19, _, _, _, _, _⟩) (v := _) rfl (by kernel_rfl) (by kernel_rfl) (by kernel_rfl) (fun _ _ _ h => h) (yieldsIf_load_mid (by rfl) 121 _ rfl b1 (o1 + k * 8) rfl L1 _ (fun w' hSw => range_below hr1.out hSw hb1) Tryz.underlying121 rfl (by rw [hl1.out]; exact ez_View.out)) (by assumption) ?_
          try go_frame
          refine wpAnyH_take (i := 4) (oi := ⟨some 20, _, _, _, _, _⟩) (v := ?_) rfl (by kernel_rfl) (by kernel_rfl) (by kernel_rfl) (fun _ _ _ h => h) (Or.inl ⟨by rfl, ?_⟩) (by assumption) ?_
          rotate_left
          · intro w' hSw
            go_simp
            try with_reducible rfl
          try go_frame
          refine wpAnyH_take (i := 5) (oi := ⟨some 21, _, _, _, _, _⟩) (v := ?_) rfl (by kernel_rfl) (by kernel_rfl) (by kernel_rfl) (fun _ _ _ h => h) (Or.inl ⟨by rfl, ?_⟩) (by assumption) ?_
          rotate_left
          · intro w' hSw
            go_simp
            try with_reducible rfl
          try go_frame
          refine wpAnyH_take (i := 6) (oi := ⟨some 22, _, _, _, _, _⟩) (v := ?_) rfl (by kernel_rfl) (by kernel_rfl) (by kernel_rfl) (fun _ _ _ h => h) (Or.inl ⟨by rfl, ?_⟩) (by assumption) ?_
          rotate_left
          · intro w' hSw
            go_simp
            try with_reducible rfl
          try go_frame
          refine wpAnyH_take (i := 7) (oi := ⟨some 23, _, _, _, _, _⟩) (v := _) rfl (by kernel_rfl) (by kernel_rfl) (by kernel_rfl) (fun _ _ _ h => h) (yieldsIf_load_mid (by rfl) 121 _ rfl b2 (o2 + k * 8) rfl L2 _ (fun w' hSw => range_below hr2.out hSw hb2) Tryz.underlying121 rfl (by rw [hl2.out]; exact ez_View.out)) (by assumption) ?_
          try go_frame
          refine wpAnyH_take (i := 8) (oi := ⟨some 24, _, _, _, _, _⟩) (v := .bool false) rfl (by kernel_rfl) (by kernel_rfl) (by kernel_rfl) (fun _ _ _ h => h) (yieldsIf_binopE (by rfl) .neq 121 (.tmp 19) (.tmp 23) 121 rfl (u := .agg L1.toArray) (v := .agg L2.toArray) (by kernel_rfl) (by kernel_rfl) (fun W => by kernel_rfl) hNE.out) (by assumption) ?_
          try go_frame
          refine wpAnyH_done (by kernel_rfl) ?_ _
          try go_frame
          go_wp2_with fail
          go_roundg (n - (k + 1))
          case measure => omega
          case rel => exact ⟨k + 1, by omega, by omega, by go_num, HB.out.drew, HP2⟩
        · have HPN := Lib.hid (HPF.out (not_same hx hy he))
          have hNE : Hid (∀ W, (binOp .neq 121 (.agg L1.toArray) (.agg L2.toArray)).run Tryz.prog W = .ok (.bool true) W) := Lib.hid fun W => by rw [hne.out W, decide_eq_false he]; rfl
          clear he hne HP hv1 hv2 hx hy hq1 hq2 HPF HPT
          go_wp2_with fail
          try (apply wp_seq_k; intro K_ HK_)
          have hS0 : Below wr.heap.size wr wr.drew := (Below.refl _ _).drew
          refine wp_region_held_drew (S := fun w' => Below wr.heap.size wr w') (by kernel_rfl) hS0 (fun hHeld0 => ?_)
          refine wpAnyH_take (i := 0) (oi := ⟨some 16, _, _, _, _, _⟩) (v := ?_) rfl (by kernel_rfl) (by kernel_rfl) (by kernel_rfl) (fun _ _ _ h => h) (Or.inl ⟨by rfl, ?_⟩) (by assumption) ?_
          rotate_left
          · intro w' hSw
            go_simp
            try with_reducible rfl
          try go_frame
          refine wpAnyH_take (i := 1) (oi := ⟨some 17, _, _, _, _, _⟩) (v := ?_) rfl (by kernel_rfl) (by kernel_rfl) (by kernel_rfl) (fun _ _ _ h => h) (Or.inl ⟨by rfl, ?_⟩) (by assumption) ?_
          rotate_left
          · intro w' hSw
            go_simp
            try with_reducible rfl
          try go_frame
          refine wpAnyH_take (i := 2) (oi := ⟨some 18, _, _, _, _, _⟩) (v := ?_) rfl (by kernel_rfl) (by kernel_rfl) (by kernel_rfl) (fun _ _ _ h => h) (Or.inl ⟨by rfl, ?_⟩) (by assumption) ?_
          rotate_left
          · intro w' hSw
            go_simp
            try with_reducible rfl
          try go_frame
          refine wpAnyH_take (i := 3) (oi := ⟨some 19, _, _, _, _, _⟩) (v := _) rfl (by kernel_rfl) (by kernel_rfl) (by kernel_rfl) (fun _ _ _ h => h) (yieldsIf_load_mid (by rfl) 121 _ rfl b1 (o1 + k * 8) rfl L1 _ (fun w' hSw => range_below hr1.out hSw hb1) Tryz.underlying121 rfl (by rw [hl1.out]; exact ez_View.out)) (by assumption) ?_
          try go_frame
          refine wpAnyH_take (i := 4) (oi := ⟨some 20, _, _, _, _, _⟩) (v := ?_) rfl (by kernel_rfl) (by kernel_rfl) (by kernel_rfl) (fun _ _ _ h => h) (Or.inl ⟨by rfl, ?_⟩) (by assumption) ?_
          rotate_left
          · intro w' hSw
            go_simp
            try with_reducible rfl
          try go_frame
          refine wpAnyH_take (i := 5) (oi := ⟨some 21, _, _, _, _, _⟩) (v := ?_) rfl (by kernel_rfl) (by kernel_rfl) (by kernel_rfl) (fun _ _ _ h => h) (Or.inl ⟨by rfl, ?_⟩) (by assumption) ?_
          rotate_left
          · intro w' hSw
            go_simp
            try with_reducible rfl
          try go_frame
          refine wpAnyH_take (i := 6) (oi := ⟨some 22, _, _, _, _, _⟩) (v := ?_) rfl (by kernel_rfl) (by kernel_rfl) (by kernel_rfl) (fun _ _ _ h => h) (Or.inl ⟨by rfl, ?_⟩) (by assumption) ?_
          rotate_left
          · intro w' hSw
            go_simp
            try with_reducible rfl
          try go_frame
          refine wpAnyH_take (i := 7) (oi := ⟨some 23, _, _, _, _, _⟩) (v := _) rfl (by kernel_rfl) (by kernel_rfl) (by kernel_rfl) (fun _ _ _ h => h) (yieldsIf_load_mid (by rfl) 121 _ rfl b2 (o2 + k * 8) rfl L2 _ (fun w' hSw => range_below hr2.out hSw hb2) Tryz.underlying121 rfl (by rw [hl2.out]; exact ez_View.out)) (by assumption) ?_
          try go_frame
          refine wpAnyH_take (i := 8) (oi := ⟨some 24, _, _, _, _, _⟩) (v := .bool true) rfl (by kernel_rfl) (by kernel_rfl) (by kernel_rfl) (fun _ _ _ h => h) (yieldsIf_binopE (by rfl) .neq 121 (.tmp 19) (.tmp 23) 121 rfl (u := .agg L1.toArray) (v := .agg L2.toArray) (by kernel_rfl) (by kernel_rfl) (fun W => by kernel_rfl) hNE.out) (by assumption) ?_
          try go_frame
          refine wpAnyH_done (by kernel_rfl) ?_ _
          try go_frame
          go_wp2_with fail
          go_ret
          rw [HPN.out]
          exact ⟨rfl, HB.out.drew⟩
      · have hkn : k = n := by omega
        subst hkn
        have HPN := Lib.hid (HPT.out (same_all (hX.out.trans hY.out.symm) (fun j hj => HP.out j (by rw [← hX.out]; exact hj))))
        clear HPT HPF
        go_wp2_with fail
        go_ret
        rw [HPN.out]
        exact ⟨rfl, HB.out⟩
  · have hne : ((n : Int) != (m : Int)) = true := by rw [bne_iff_ne]; omega
    have HPN : Hid (decide (X = Y) = false) := Lib.hid (decide_eq_false fun e => hnm (by rw [← hX.out, ← hY.out, e]))
    clear hnm
    generalize decide (X = Y) = R at *
    go_enter Tryz.func50, Tryz.ntmps50
    go_wp2_with fail
    go_ret
    rw [HPN.out]
    exact ⟨rfl, Below.refl _ _⟩
end Go.Proofs.YtafkadhijljmkaaGreat
