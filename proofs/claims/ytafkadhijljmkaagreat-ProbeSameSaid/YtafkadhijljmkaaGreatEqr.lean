/- Slices compared: of int64, and the reference's loops. Printed by geneq2.py. -/
import Derived.Test.YtafkadhijljmkaaGreatEqs
import Derived.Deep.QuietTactic
import Derived.BigQuiet
import Derived.WalkKit
namespace Go.Proofs.YtafkadhijljmkaaGreat
set_option linter.unusedVariables false
open Go.RowKit

theorem KV.i64 {X : List Value} {l : List Lit} (h : KV 2 X l) : ∃ n, X = [.int .i64 n] ∧ l = [.int .i64 n] := by
  obtain ⟨D, h⟩ := h
  exact keyLits_int' Tryz.underlying2 h
set_option maxRecDepth 8000 in
set_option maxHeartbeats 1000000 in
theorem slEq_Int (A B : Option Addr) (n m c d : Nat) (X Y : List (List Lit)) (w : World) (hX : Hid (X.length = n)) (hY : Hid (Y.length = m)) (hA : Hid (SlK 2 1 (fun b => b < w.heap.size) w A X)) (hB : Hid (SlK 2 1 (fun b => b < w.heap.size) w B Y)) (hn : n ≤ maxLen) (hm : m ≤ maxLen) :
    Calls Tryz.prog 32 #[.slice A n c, .slice B m d] w fun e w' => e = .returned (.bool (decide (X = Y))) ∧ Below w.heap.size w w' := by
  unfold maxLen at hn hm
  by_cases hnm : n = m
  · subst hnm
    have HPT : Hid (X = Y → decide (X = Y) = true) := Lib.hid fun h => decide_eq_true h
    have HPF : Hid (X ≠ Y → decide (X = Y) = false) := Lib.hid fun h => decide_eq_false h
    generalize decide (X = Y) = R at *
    have hnn : ((n : Int) != (n : Int)) = false := by rw [bne_eq_false_iff_eq]
    go_enter Tryz.func32, Tryz.ntmps32
    go_wp2_with fail
    go_loopg [13] n (fun g s13 wr => ∃ k : Nat, k ≤ n ∧ n - k ≤ g ∧ s13 = .int .i64 k ∧ Hid (Below w.heap.size w wr) ∧ Hid (∀ j, j < k → X[j]? = Y[j]?))
    case atStart => exact ⟨0, Nat.zero_le _, by omega, rfl, Below.refl _ _, fun j hj => absurd hj (Nat.not_lt_zero _)⟩
    case round =>
      obtain ⟨k, hk, hg, rfl, HB, HP⟩ := hrel
      by_cases hlt : k < n
      · have hx : k < X.length := by rw [hX.out]; exact hlt
        have hy : k < Y.length := by rw [hY.out]; exact hlt
        obtain ⟨b1, o1, L1, hA1, hq1, hr1, hv1⟩ := hA.out k hx
        obtain ⟨b2, o2, L2, hA2, hq2, hr2, hv2⟩ := hB.out k hy
        subst hA1 hA2
        have hb1 : b1 < wr.heap.size := Nat.lt_of_lt_of_le hq1 HB.out.size
        have hb2 : b2 < wr.heap.size := Nat.lt_of_lt_of_le hq2 HB.out.size
        have hr1 := Lib.hid (range_below hr1 HB.out hq1)
        have hr2 := Lib.hid (range_below hr2 HB.out hq2)
        have c1 : wr.cell? ⟨b1, o1 + k, none⟩ = L1[0]? := by
          obtain ⟨x, e, -⟩ := hv1.i64
          have := hr1.out 0 (.int .i64 x) (by rw [e]; rfl)
          rw [Nat.mul_one, Nat.add_zero] at this
          rw [this, e]; rfl
        have c2 : wr.cell? ⟨b2, o2 + k, none⟩ = L2[0]? := by
          obtain ⟨x, e, -⟩ := hv2.i64
          have := hr2.out 0 (.int .i64 x) (by rw [e]; rfl)
          rw [Nat.mul_one, Nat.add_zero] at this
          rw [this, e]; rfl
        obtain ⟨x, e1, l1⟩ := hv1.i64
        obtain ⟨y, e2, l2⟩ := hv2.i64
        rw [e1] at c1
        rw [e2] at c2
        have c1 : wr.cell? ⟨b1, o1 + k, none⟩ = some (.int .i64 x) := c1
        have c2 : wr.cell? ⟨b2, o2 + k, none⟩ = some (.int .i64 y) := c2
        have i1 : (0 : Int) ≤ (k : Int) := Int.natCast_nonneg _
        have i2 : (k : Int) < (n : Int) := by omega
        by_cases he : X[k] = Y[k]
        · have HP2 := Lib.hid (same_first hx hy HP.out he)
          have hxy : (x != y) = false := by
            rw [l1, l2] at he
            injection he with he
            injection he with he1 he2
            rw [bne_eq_false_iff_eq]; exact he2
          clear e1 e2 l1 l2 hr1 hr2
          clear he HP hv1 hv2 hx hy hq1 hq2
          go_wp2_with fail
          go_quiet (fail)
          go_wp2_with fail
          go_roundg (n - (k + 1))
          case measure => omega
          case rel => exact ⟨k + 1, by omega, by omega, by go_num, bdrewN HB.out _, HP2⟩
        · have HPN := Lib.hid (HPF.out (not_same hx hy he))
          have hxy : (x != y) = true := by
            rw [l1, l2] at he
            rw [bne_iff_ne]
            intro q
            exact he (by rw [q])
          clear e1 e2 l1 l2 hr1 hr2
          clear he HP hv1 hv2 hx hy hq1 hq2 HPF HPT
          go_wp2_with fail
          go_quiet (fail)
          go_wp2_with fail
          go_ret
          rw [HPN.out]
          exact ⟨rfl, bdrewN HB.out _⟩
      · have hkn : k = n := by omega
        subst hkn
        have HPN := Lib.hid (HPT.out (same_all (hX.out.trans hY.out.symm) (fun j hj => HP.out j (by rw [← hX.out]; exact hj))))
        clear HPT HPF
        go_wp2_with fail
        go_ret
        rw [HPN.out]
        exact ⟨rfl, HB.out⟩
  · have hne : ((n : Int) != (m : Int)) = true := by rw [bne_iff_ne]; omega
    have HPN : Hid (decide (X = Y) = false) := Lib.hid (decide_eq_false fun e => hnm (by rw [← hX.out, ← hY.out, e]))
    clear hnm
    generalize decide (X = Y) = R at *
    go_enter Tryz.func32, Tryz.ntmps32
    go_wp2_with fail
    go_ret
    rw [HPN.out]
    exact ⟨rfl, Below.refl _ _⟩
set_option maxRecDepth 8000 in
set_option maxHeartbeats 1000000 in
theorem r03Same_eq (A B : Option Addr) (n m c d : Nat) (X Y : List (List Lit)) (w : World) (hX : Hid (X.length = n)) (hY : Hid (Y.length = m)) (hA : Hid (SlK 2 1 (fun b => b < w.heap.size) w A X)) (hB : Hid (SlK 2 1 (fun b => b < w.heap.size) w B Y)) (hn : n ≤ maxLen) (hm : m ≤ maxLen) :
    Calls Tryz.prog 37 #[.slice A n c, .slice B m d] w fun e w' => e = .returned (.bool (decide (X = Y))) ∧ Below w.heap.size w w' := by
  unfold maxLen at hn hm
  by_cases hnm : n = m
  · subst hnm
    have HPT : Hid (X = Y → decide (X = Y) = true) := Lib.hid fun h => decide_eq_true h
    have HPF : Hid (X ≠ Y → decide (X = Y) = false) := Lib.hid fun h => decide_eq_false h
    generalize decide (X = Y) = R at *
    have hnn : ((n : Int) != (n : Int)) = false := by rw [bne_eq_false_iff_eq]
    go_enter Tryz.func37, Tryz.ntmps37
    go_wp2_with fail
    go_loopg [5] n (fun g s13 wr => ∃ k : Nat, k ≤ n ∧ n - k ≤ g ∧ s13 = .int .i64 k ∧ Hid (Below w.heap.size w wr) ∧ Hid (∀ j, j < k → X[j]? = Y[j]?))
    case atStart => exact ⟨0, Nat.zero_le _, by omega, rfl, Below.refl _ _, fun j hj => absurd hj (Nat.not_lt_zero _)⟩
    case round =>
      obtain ⟨k, hk, hg, rfl, HB, HP⟩ := hrel
      by_cases hlt : k < n
      · have hx : k < X.length := by rw [hX.out]; exact hlt
        have hy : k < Y.length := by rw [hY.out]; exact hlt
        obtain ⟨b1, o1, L1, hA1, hq1, hr1, hv1⟩ := hA.out k hx
        obtain ⟨b2, o2, L2, hA2, hq2, hr2, hv2⟩ := hB.out k hy
        subst hA1 hA2
        have hb1 : b1 < wr.heap.size := Nat.lt_of_lt_of_le hq1 HB.out.size
        have hb2 : b2 < wr.heap.size := Nat.lt_of_lt_of_le hq2 HB.out.size
        have hr1 := Lib.hid (range_below hr1 HB.out hq1)
        have hr2 := Lib.hid (range_below hr2 HB.out hq2)
        have c1 : wr.cell? ⟨b1, o1 + k, none⟩ = L1[0]? := by
          obtain ⟨x, e, -⟩ := hv1.i64
          have := hr1.out 0 (.int .i64 x) (by rw [e]; rfl)
          rw [Nat.mul_one, Nat.add_zero] at this
          rw [this, e]; rfl
        have c2 : wr.cell? ⟨b2, o2 + k, none⟩ = L2[0]? := by
          obtain ⟨x, e, -⟩ := hv2.i64
          have := hr2.out 0 (.int .i64 x) (by rw [e]; rfl)
          rw [Nat.mul_one, Nat.add_zero] at this
          rw [this, e]; rfl
        obtain ⟨x, e1, l1⟩ := hv1.i64
        obtain ⟨y, e2, l2⟩ := hv2.i64
        rw [e1] at c1
        rw [e2] at c2
        have c1 : wr.cell? ⟨b1, o1 + k, none⟩ = some (.int .i64 x) := c1
        have c2 : wr.cell? ⟨b2, o2 + k, none⟩ = some (.int .i64 y) := c2
        have i1 : (0 : Int) ≤ (k : Int) := Int.natCast_nonneg _
        have i2 : (k : Int) < (n : Int) := by omega
        by_cases he : X[k] = Y[k]
        · have HP2 := Lib.hid (same_first hx hy HP.out he)
          have hxy : (x != y) = false := by
            rw [l1, l2] at he
            injection he with he
            injection he with he1 he2
            rw [bne_eq_false_iff_eq]; exact he2
          clear e1 e2 l1 l2 hr1 hr2
          clear he HP hv1 hv2 hx hy hq1 hq2
          go_wp2_with fail
          go_quiet (fail)
          go_wp2_with fail
          go_roundg (n - (k + 1))
          case measure => omega
          case rel => exact ⟨k + 1, by omega, by omega, by go_num, bdrewN HB.out _, HP2⟩
        · have HPN := Lib.hid (HPF.out (not_same hx hy he))
          have hxy : (x != y) = true := by
            rw [l1, l2] at he
            rw [bne_iff_ne]
            intro q
            exact he (by rw [q])
          clear e1 e2 l1 l2 hr1 hr2
          clear he HP hv1 hv2 hx hy hq1 hq2 HPF HPT
          go_wp2_with fail
          go_quiet (fail)
          go_wp2_with fail
          go_ret
          rw [HPN.out]
          exact ⟨rfl, bdrewN HB.out _⟩
      · have hkn : k = n := by omega
        subst hkn
        have HPN := Lib.hid (HPT.out (same_all (hX.out.trans hY.out.symm) (fun j hj => HP.out j (by rw [← hX.out]; exact hj))))
        clear HPT HPF
        go_wp2_with fail
        go_ret
        rw [HPN.out]
        exact ⟨rfl, HB.out⟩
  · have hne : ((n : Int) != (m : Int)) = true := by rw [bne_iff_ne]; omega
    have HPN : Hid (decide (X = Y) = false) := Lib.hid (decide_eq_false fun e => hnm (by rw [← hX.out, ← hY.out, e]))
    clear hnm
    generalize decide (X = Y) = R at *
    go_enter Tryz.func37, Tryz.ntmps37
    go_wp2_with fail
    go_ret
    rw [HPN.out]
    exact ⟨rfl, Below.refl _ _⟩
set_option maxRecDepth 8000 in
set_option maxHeartbeats 1000000 in
theorem r29Views_eq (A B : Option Addr) (n m c d : Nat) (X Y : List (List Lit)) (w : World) (hX : Hid (X.length = n)) (hY : Hid (Y.length = m)) (hA : Hid (SlK 121 8 (fun b => b < w.heap.size) w A X)) (hB : Hid (SlK 121 8 (fun b => b < w.heap.size) w B Y)) (hn : n ≤ maxLen) (hm : m ≤ maxLen) :
    Calls Tryz.prog 51 #[.slice A n c, .slice B m d] w fun e w' => e = .returned (.bool (decide (X = Y))) ∧ Below w.heap.size w w' := by
  unfold maxLen at hn hm
  by_cases hnm : n = m
  · subst hnm
    have HPT : Hid (X = Y → decide (X = Y) = true) := Lib.hid fun h => decide_eq_true h
    have HPF : Hid (X ≠ Y → decide (X = Y) = false) := Lib.hid fun h => decide_eq_false h
    generalize decide (X = Y) = R at *
    have hnn : ((n : Int) != (n : Int)) = false := by rw [bne_eq_false_iff_eq]
    go_enter Tryz.func51, Tryz.ntmps51
    go_wp2_with fail
    go_loopg [5] n (fun g s13 wr => ∃ k : Nat, k ≤ n ∧ n - k ≤ g ∧ s13 = .int .i64 k ∧ Hid (Below w.heap.size w wr) ∧ Hid (∀ j, j < k → X[j]? = Y[j]?))
    case atStart => exact ⟨0, Nat.zero_le _, by omega, rfl, Below.refl _ _, fun j hj => absurd hj (Nat.not_lt_zero _)⟩
    case round =>
      obtain ⟨k, hk, hg, rfl, HB, HP⟩ := hrel
      by_cases hlt : k < n
      · have hx : k < X.length := by rw [hX.out]; exact hlt
        have hy : k < Y.length := by rw [hY.out]; exact hlt
        obtain ⟨b1, o1, L1, hA1, hq1, hr1, hv1⟩ := hA.out k hx
        obtain ⟨b2, o2, L2, hA2, hq2, hr2, hv2⟩ := hB.out k hy
        subst hA1 hA2
        have hb1 : b1 < wr.heap.size := Nat.lt_of_lt_of_le hq1 HB.out.size
        have hb2 : b2 < wr.heap.size := Nat.lt_of_lt_of_le hq2 HB.out.size
        have hr1 := Lib.hid (range_below hr1 HB.out hq1)
        have hr2 := Lib.hid (range_below hr2 HB.out hq2)
        have hl1 := Lib.hid (hv1.struct_len Tryz.underlying121)
        have hl2 := Lib.hid (hv2.struct_len Tryz.underlying121)
        have hne := Lib.hid (neq_key (m := 10) Tryz.underlying121 (by kernel_rfl) (by decide) hv1 hv2)
        have i1 : (0 : Int) ≤ (k : Int) := Int.natCast_nonneg _
        have i2 : (k : Int) < (n : Int) := by omega
        by_cases he : X[k] = Y[k]
        · have HP2 := Lib.hid (same_first hx hy HP.out he)
          have hNE : Hid (∀ W, (binOp .neq 121 (.agg L1.toArray) (.agg L2.toArray)).run Tryz.prog W = .ok (.bool false) W) := Lib.hid fun W => by rw [hne.out W, decide_eq_true he]; rfl
          clear hne
          clear he HP hv1 hv2 hx hy hq1 hq2
          go_wp2_with fail
          try (apply wp_seq_k; intro K_ HK_)
          have hS0 : Below wr.heap.size wr wr.drew := (Below.refl _ _).drew
          refine wp_region_held_drew (S := fun w' => Below wr.heap.size wr w') (by kernel_rfl) hS0 (fun hHeld0 => ?_)
          refine wpAnyH_take (i := 0) (oi := ⟨some 17, _, _, _, _, _⟩) (v := ?_) rfl (by kernel_rfl) (by kernel_rfl) (by kernel_rfl) (fun _ _ _ h => h) (Or.inl ⟨by rfl, ?_⟩) (by assumption) ?_
          rotate_left
          · intro w' hSw
            go_simp
            try with_reducible rfl
          try go_frame
          refine wpAnyH_take (i := 1) (oi := ⟨some 18, _, _, _, _, _⟩) (v := ?_) rfl (by kernel_rfl) (by kernel_rfl) (by kernel_rfl) (fun _ _ _ h => h) (Or.inl ⟨by rfl, ?_⟩) (by assumption) ?_
          rotate_left
          · intro w' hSw
            go_simp
            try with_reducible rfl
          try go_frame
          refine wpAnyH_take (i := 2) (oi := ⟨some 19, _, _, _, _, _⟩) (v := ?_) rfl (by kernel_rfl) (by kernel_rfl) (by kernel_rfl) (fun _ _ _ h => h) (Or.inl ⟨by rfl, ?_⟩) (by assumption) ?_
          rotate_left
          · intro w' hSw
            go_simp
            try with_reducible rfl
          try go_frame
          refine wpAnyH_take (i := 3) (oi := ⟨some 20, _, _, _, _, _⟩) (v := _) rfl (by kernel_rfl) (by kernel_rfl) (by kernel_rfl) (fun _ _ _ h => h) (yieldsIf_load_mid (by rfl) 121 _ rfl b1 (o1 + k * 8) rfl L1 _ (fun w' hSw => range_below hr1.out hSw hb1) Tryz.underlying121 rfl (by rw [hl1.out]; exact ez_View.out)) (by assumption) ?_
          try go_frame
          refine wpAnyH_take (i := 4) (oi := ⟨some 21, _, _, _, _, _⟩) (v := ?_) rfl (by kernel_rfl) (by kernel_rfl) (by kernel_rfl) (fun _ _ _ h => h) (Or.inl ⟨by rfl, ?_⟩) (by assumption) ?_
          rotate_left
          · intro w' hSw
            go_simp
            try with_reducible rfl
          try go_frame
          refine wpAnyH_take (i := 5) (oi := ⟨some 22, _, _, _, _, _⟩) (v := ?_) rfl (by kernel_rfl) (by kernel_rfl) (by kernel_rfl) (fun _ _ _ h => h) (Or.inl ⟨by rfl, ?_⟩) (by assumption) ?_
          rotate_left
          · intro w' hSw
            go_simp
            try with_reducible rfl
          try go_frame
          refine wpAnyH_take (i := 6) (oi := ⟨some 23, _, _, _, _, _⟩) (v := ?_) rfl (by kernel_rfl) (by kernel_rfl) (by kernel_rfl) (fun _ _ _ h => h) (Or.inl ⟨by rfl, ?_⟩) (by assumption) ?_
          rotate_left
          · intro w' hSw
            go_simp
            try with_reducible rfl
          try go_frame
          refine wpAnyH_take (i := 7) (oi := ⟨some 24, _, _, _, _, _⟩) (v := _) rfl (by kernel_rfl) (by kernel_rfl) (by kernel_rfl) (fun _ _ _ h => h) (yieldsIf_load_mid (by rfl) 121 _ rfl b2 (o2 + k * 8) rfl L2 _ (fun w' hSw => range_below hr2.out hSw hb2) Tryz.underlying121 rfl (by rw [hl2.out]; exact ez_View.out)) (by assumption) ?_
          try go_frame
          refine wpAnyH_take (i := 8) (oi := ⟨some 25, _, _, _, _, _⟩) (v := .bool false) rfl (by kernel_rfl) (by kernel_rfl) (by kernel_rfl) (fun _ _ _ h => h) (yieldsIf_binopE (by rfl) .neq 121 (.tmp 20) (.tmp 24) 121 rfl (u := .agg L1.toArray) (v := .agg L2.toArray) (by kernel_rfl) (by kernel_rfl) (fun W => by kernel_rfl) hNE.out) (by assumption) ?_
          try go_frame
          refine wpAnyH_done (by kernel_rfl) ?_ _
          try go_frame
          go_wp2_with fail
          go_roundg (n - (k + 1))
          case measure => omega
          case rel => exact ⟨k + 1, by omega, by omega, by go_num, HB.out.drew, HP2⟩
        · have HPN := Lib.hid (HPF.out (not_same hx hy he))
          have hNE : Hid (∀ W, (binOp .neq 121 (.agg L1.toArray) (.agg L2.toArray)).run Tryz.prog W = .ok (.bool true) W) := Lib.hid fun W => by rw [hne.out W, decide_eq_false he]; rfl
          clear hne
          clear he HP hv1 hv2 hx hy hq1 hq2 HPF HPT
          go_wp2_with fail
          try (apply wp_seq_k; intro K_ HK_)
          have hS0 : Below wr.heap.size wr wr.drew := (Below.refl _ _).drew
          refine wp_region_held_drew (S := fun w' => Below wr.heap.size wr w') (by kernel_rfl) hS0 (fun hHeld0 => ?_)
          refine wpAnyH_take (i := 0) (oi := ⟨some 17, _, _, _, _, _⟩) (v := ?_) rfl (by kernel_rfl) (by kernel_rfl) (by kernel_rfl) (fun _ _ _ h => h) (Or.inl ⟨by rfl, ?_⟩) (by assumption) ?_
          rotate_left
          · intro w' hSw
            go_simp
            try with_reducible rfl
          try go_frame
          refine wpAnyH_take (i := 1) (oi := ⟨some 18, _, _, _, _, _⟩) (v := ?_) rfl (by kernel_rfl) (by kernel_rfl) (by kernel_rfl) (fun _ _ _ h => h) (Or.inl ⟨by rfl, ?_⟩) (by assumption) ?_
          rotate_left
          · intro w' hSw
            go_simp
            try with_reducible rfl
          try go_frame
          refine wpAnyH_take (i := 2) (oi := ⟨some 19, _, _, _, _, _⟩) (v := ?_) rfl (by kernel_rfl) (by kernel_rfl) (by kernel_rfl) (fun _ _ _ h => h) (Or.inl ⟨by rfl, ?_⟩) (by assumption) ?_
          rotate_left
          · intro w' hSw
            go_simp
            try with_reducible rfl
          try go_frame
          refine wpAnyH_take (i := 3) (oi := ⟨some 20, _, _, _, _, _⟩) (v := _) rfl (by kernel_rfl) (by kernel_rfl) (by kernel_rfl) (fun _ _ _ h => h) (yieldsIf_load_mid (by rfl) 121 _ rfl b1 (o1 + k * 8) rfl L1 _ (fun w' hSw => range_below hr1.out hSw hb1) Tryz.underlying121 rfl (by rw [hl1.out]; exact ez_View.out)) (by assumption) ?_
          try go_frame
          refine wpAnyH_take (i := 4) (oi := ⟨some 21, _, _, _, _, _⟩) (v := ?_) rfl (by kernel_rfl) (by kernel_rfl) (by kernel_rfl) (fun _ _ _ h => h) (Or.inl ⟨by rfl, ?_⟩) (by assumption) ?_
          rotate_left
          · intro w' hSw
            go_simp
            try with_reducible rfl
          try go_frame
          refine wpAnyH_take (i := 5) (oi := ⟨some 22, _, _, _, _, _⟩) (v := ?_) rfl (by kernel_rfl) (by kernel_rfl) (by kernel_rfl) (fun _ _ _ h => h) (Or.inl ⟨by rfl, ?_⟩) (by assumption) ?_
          rotate_left
          · intro w' hSw
            go_simp
            try with_reducible rfl
          try go_frame
          refine wpAnyH_take (i := 6) (oi := ⟨some 23, _, _, _, _, _⟩) (v := ?_) rfl (by kernel_rfl) (by kernel_rfl) (by kernel_rfl) (fun _ _ _ h => h) (Or.inl ⟨by rfl, ?_⟩) (by assumption) ?_
          rotate_left
          · intro w' hSw
            go_simp
            try with_reducible rfl
          try go_frame
          refine wpAnyH_take (i := 7) (oi := ⟨some 24, _, _, _, _, _⟩) (v := _) rfl (by kernel_rfl) (by kernel_rfl) (by kernel_rfl) (fun _ _ _ h => h) (yieldsIf_load_mid (by rfl) 121 _ rfl b2 (o2 + k * 8) rfl L2 _ (fun w' hSw => range_below hr2.out hSw hb2) Tryz.underlying121 rfl (by rw [hl2.out]; exact ez_View.out)) (by assumption) ?_
          try go_frame
          refine wpAnyH_take (i := 8) (oi := ⟨some 25, _, _, _, _, _⟩) (v := .bool true) rfl (by kernel_rfl) (by kernel_rfl) (by kernel_rfl) (fun _ _ _ h => h) (yieldsIf_binopE (by rfl) .neq 121 (.tmp 20) (.tmp 24) 121 rfl (u := .agg L1.toArray) (v := .agg L2.toArray) (by kernel_rfl) (by kernel_rfl) (fun W => by kernel_rfl) hNE.out) (by assumption) ?_
          try go_frame
          refine wpAnyH_done (by kernel_rfl) ?_ _
          try go_frame
          go_wp2_with fail
          go_ret
          rw [HPN.out]
          exact ⟨rfl, HB.out.drew⟩
      · have hkn : k = n := by omega
        subst hkn
        have HPN := Lib.hid (HPT.out (same_all (hX.out.trans hY.out.symm) (fun j hj => HP.out j (by rw [← hX.out]; exact hj))))
        clear HPT HPF
        go_wp2_with fail
        go_ret
        rw [HPN.out]
        exact ⟨rfl, HB.out⟩
  · have hne : ((n : Int) != (m : Int)) = true := by rw [bne_iff_ne]; omega
    have HPN : Hid (decide (X = Y) = false) := Lib.hid (decide_eq_false fun e => hnm (by rw [← hX.out, ← hY.out, e]))
    clear hnm
    generalize decide (X = Y) = R at *
    go_enter Tryz.func51, Tryz.ntmps51
    go_wp2_with fail
    go_ret
    rw [HPN.out]
    exact ⟨rfl, Below.refl _ _⟩
end Go.Proofs.YtafkadhijljmkaaGreat
