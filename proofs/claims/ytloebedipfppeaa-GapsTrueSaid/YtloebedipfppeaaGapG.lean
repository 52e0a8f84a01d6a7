/- Layer 33: GapsPlays, walked. -/
import Derived.Test.YtloebedipfppeaaGapF
namespace Go.Proofs.Ytloebedipfppeaa
set_option linter.unusedVariables false
open Go.RowKit

theorem gapsPlays_many (A : Option Addr) (n c : Nat) (w : World) (hn : 100 < n) (hm : n ≤ maxLen) : Calls Try.prog 4 #[.slice A n c] w fun e w' => e = .returned (.bool true) ∧ Below w.heap.size w w' := by
  have i1 : (100 : Int) < (n : Int) := by omega
  unfold maxLen at hm
  go_enter Try.func4, Try.ntmps4
  go_wp2_with fail
  refine (knows33_any _).mono ?_
  rintro e w1 ⟨rfl, hb⟩
  have HB := Lib.hid hb
  clear hb
  go_wp2_with fail
  go_ret
  exact ⟨rfl, HB.out⟩
set_option maxRecDepth 8000 in
set_option maxHeartbeats 8000000 in
theorem gapsPlays_few (A : Option Addr) (n c : Nat) (L : List Cl) (w : World) (hL : Hid (L.length = n)) (hn : n ≤ 100) (hs : Cls w w.heap.size A L) : Calls Try.prog 4 #[.slice A n c] w fun e w' => e = .returned (.bool true) ∧ Below w.heap.size w w' := by
  have i1 : (n : Int) ≤ 100 := by omega
  have HS := Lib.hid hs
  clear hs
  go_enter Try.func4, Try.ntmps4
  go_wp2_with fail
  refine (knows33_any _).mono ?_
  rintro e w1 ⟨rfl, hb1⟩
  have HS1 : Hid (Cls w1 w.heap.size A L) := HS.out.keep (bcell hb1).1
  have HB1 := Lib.hid hb1
  have HZ1 : Hid (w.heap.size ≤ w1.heap.size) := hb1.size
  clear hb1 HS
  go_wp2_with fail
  refine (new_any _).mono ?_
  rintro e w2 ⟨g, rfl, hk, hb2⟩
  have HP0 := Lib.hid (PlayI.start hk hb2)
  clear hk hb2
  go_wp2_with fail
  go_loopw [4, 5] (fun v i wr => ∃ (k : Nat) (l : List Ln) (B : Option Addr) (c : Nat), k ≤ n ∧ i = .int .i64 (k : Int) ∧ v = .slice B l.length c ∧ Hid (PlayI w1 g B c l wr)) (fun _ i _ => n - (intOf i).toNat)
  case atStart => exact ⟨0, [], none, 0, Nat.zero_le _, rfl, rfl, HP0⟩
  case round =>
    clear HP0
    obtain ⟨k, l, B, cB, hk, rfl, rfl, HP⟩ := hrel
    have HBW := Lib.hid HP.out.below
    by_cases hlt : k < n
    · have hkl : k < L.length := by rw [hL.out]; exact hlt
      obtain ⟨b1, o1, hA1, hb1, hc1⟩ := HS1.out k hkl
      subst hA1
      generalize L[k] = x at *
      obtain ⟨q, s, cc⟩ := x
      have HB1Z : Hid (b1 < w1.heap.size) := Nat.lt_of_lt_of_le hb1 HZ1.out
      have HCL : Hid (∀ w', Below w1.heap.size w1 w' → w'.cell? ⟨b1, o1 + k * 3, none⟩ = some (.int .i64 q) ∧ w'.cell? ⟨b1, o1 + k * 3 + 1, none⟩ = some (.int .i64 s) ∧ w'.cell? ⟨b1, o1 + k * 3 + 2, none⟩ = some (.int .i64 cc)) := fun w' hb => by
        have e1 : ∀ (j : Nat) u, (clC (q, s, cc))[j]? = some u → w'.cell? ⟨b1, o1 + k * 3 + j, none⟩ = some u := fun j u hu => by
          rw [show o1 + k * 3 + j = o1 + 3 * k + j from by omega]; exact ((bcell hb).1 _ _ HB1Z.out).trans (hc1 j u hu)
        exact ⟨e1 0 _ rfl, e1 1 _ rfl, e1 2 _ rfl⟩
      have e1 : ∀ (j : Nat) u, (clC (q, s, cc))[j]? = some u → wr.cell? ⟨b1, o1 + k * 3 + j, none⟩ = some u := fun j u hu => by
        rw [show o1 + k * 3 + j = o1 + 3 * k + j from by omega]; exact ((bcell HBW.out).1 _ _ HB1Z.out).trans (hc1 j u hu)
      have x0 : wr.cell? ⟨b1, o1 + k * 3, none⟩ = some (.int .i64 q) := e1 0 _ rfl
      have x1 : wr.cell? ⟨b1, o1 + k * 3 + 1, none⟩ = some (.int .i64 s) := e1 1 _ rfl
      have x2 : wr.cell? ⟨b1, o1 + k * 3 + 2, none⟩ = some (.int .i64 cc) := e1 2 _ rfl
      have HC1 := Lib.hid hc1
      have HH := Lib.hid ((HP.out.keep (below_drew wr)).heard q s cc)
      have i2 : (k : Int) < (n : Int) := by omega
      have i3 : (0 : Int) ≤ (k : Int) := by omega
      clear hc1 e1 hkl hb1
      generalize hearL l q s cc = X at *
      obtain ⟨l', lost, ok⟩ := X
      go_upto_region 8 with fail
      go_cut [6, 7] (fun a b wx => a = .int .i64 lost ∧ b = .bool ok ∧ Hid (HeardI w1 g B cB l q s cc l' lost ok wx))
      case first =>
        clear HS1 HB1 HZ1 HC1 hL HP HBW
        go_region_held3 (fun w' => w'.cell? ⟨b1, o1 + k * 3, none⟩ = some (.int .i64 q) ∧ w'.cell? ⟨b1, o1 + k * 3 + 1, none⟩ = some (.int .i64 s) ∧ w'.cell? ⟨b1, o1 + k * 3 + 2, none⟩ = some (.int .i64 cc))
          (first | go_keep | exact HK3.out)
          ((go_at_call 8; refine HH.out.mono ?_; rintro e w3 ⟨rfl, hb3, hr3⟩; have HX : Hid (HeardI w1 g B cB l q s cc l' lost ok w3) := ⟨hb3, hr3⟩; have HK3 := Lib.hid (HCL.out w3 hb3); clear hb3 hr3))
        all_goals
          go_wp2_with fail
          go_meet
          exact ⟨rfl, rfl, HX⟩
      case rest =>
      obtain ⟨rfl, rfl, HX⟩ := hcut
      have e1 : ∀ (j : Nat) u, (clC (q, s, cc))[j]? = some u → wc.cell? ⟨b1, o1 + k * 3 + j, none⟩ = some u := fun j u hu => by
        rw [show o1 + k * 3 + j = o1 + 3 * k + j from by omega]; exact ((bcell HX.out.1).1 _ _ HB1Z.out).trans (HC1.out j u hu)
      have y0 : wc.cell? ⟨b1, o1 + k * 3, none⟩ = some (.int .i64 q) := e1 0 _ rfl
      have y1 : wc.cell? ⟨b1, o1 + k * 3 + 1, none⟩ = some (.int .i64 s) := e1 1 _ rfl
      have y2 : wc.cell? ⟨b1, o1 + k * 3 + 2, none⟩ = some (.int .i64 cc) := e1 2 _ rfl
      have HR3 := Lib.hid (HX.out.2 _ (below_drew wc))
      clear e1 x0 x1 x2 HH HX HBW HC1
      go_upto_region 9 with fail
      go_cut [8, 9, 10] (fun v a b wx => ∃ B' c', v = .slice B' l'.length c' ∧ a = .int .i64 lost ∧ b = .bool ok ∧ Hid (PlayI w1 g B' c' l' wx))
      case first =>
        clear HS1 HB1 HZ1 hL HP
        go_region_held3 (fun w' => w'.cell? ⟨b1, o1 + k * 3, none⟩ = some (.int .i64 q) ∧ w'.cell? ⟨b1, o1 + k * 3 + 1, none⟩ = some (.int .i64 s) ∧ w'.cell? ⟨b1, o1 + k * 3 + 2, none⟩ = some (.int .i64 cc))
          (first | go_keep | exact HK3.out)
          ((go_at_call 10; refine HR3.out.mono ?_; rintro e w4 ⟨B', c', rfl, hp4⟩; have HX := Lib.hid hp4; have HK3 := Lib.hid (HCL.out w4 hp4.below); clear hp4))
        all_goals
          go_wp2_with fail
          go_meet
          exact ⟨B', c', rfl, rfl, rfl, HX⟩
      case rest =>
      obtain ⟨B', c', rfl, rfl, rfl, HP4⟩ := hcut
      have HA4 := Lib.hid HP4.out.all
      have hb0 : (lost != lost) = false := by rw [bne_eq_false_iff_eq]
      have hb1 : (ok != ok) = false := by rw [bne_eq_false_iff_eq]
      clear y0 y1 y2 HR3 HP
      have HL16 : Hid (l'.length ≤ 16) := HP4.out.lines.2
      generalize hm : l'.length = m at *
      have HM := Lib.hid hm
      clear hm
      go_wp2_with fail
      refine HA4.out.mono ?_
      rintro e w5 ⟨A5, c5, rfl, hl5, hb5⟩
      have HP5 := Lib.hid (HP4.out.keep hb5)
      have HL5 := Lib.hid (lines_any A5 m c5 l' w5 HM (Lib.hid hl5) HL16.out)
      clear hl5 hb5 HA4 HP4
      go_wp2_with fail
      refine HL5.out.mono ?_
      rintro e w6 ⟨A6, c6, rfl, hl6, hb6⟩
      have HP6 := Lib.hid (HP5.out.keep hb6)
      have HL6 := Lib.hid (r33Same_same A6 B' m c6 c' l' w6 HM (Lib.hid hl6) (Lib.hid HP6.out.lines.1) (by have := HL16.out; omega))
      rw [HM.out]
      clear hl6 hb6 HP5 HL5
      go_wp2_with fail
      refine HL6.out.mono ?_
      rintro e w7 ⟨rfl, hb7⟩
      have HP7 := Lib.hid (HP6.out.keep hb7)
      clear hb7 HL6 HP6
      go_wp2_with fail
      go_roundw
      case rel => exact ⟨k + 1, l', B', c', by omega, by go_num, by rw [HM.out], HP7⟩
      case measure => simp [intOf]; omega
    · obtain rfl : k = n := by omega
      have HLN := Lib.hid HP.out.lines.1
      have HL16 : Hid (l.length ≤ 16) := HP.out.lines.2
      have HSU := Lib.hid HP.out.sums
      have HBW := Lib.hid (HB1.out.trans (HP.out.below.mono HZ1.out))
      generalize hm : l.length = m at *
      have HM := Lib.hid hm
      have hm16 : m ≤ 16 := HL16.out
      clear hm HL16 hlt
      go_wp2_with fail
      go_loopw [11, 12, 13] (fun a b i wx => ∃ j : Nat, j ≤ m ∧ i = .int .i64 (j : Int) ∧ a = .int .i64 (sumH (l.take j)) ∧ b = .int .i64 (sumLo (l.take j)) ∧ wx = wr) (fun _ _ i _ => m - (intOf i).toNat)
      case atStart => exact ⟨0, Nat.zero_le _, rfl, rfl, rfl, rfl⟩
      case round =>
        obtain ⟨j, hj, rfl, rfl, rfl, rfl⟩ := hrel
        by_cases hjm : j < m
        · have hjl : j < l.length := by rw [HM.out]; exact hjm
          have HS1' := Lib.hid (sumH_snoc l j hjl)
          have HS2' := Lib.hid (sumLo_snoc l j hjl)
          obtain ⟨b1, o1, hA1, hb1, hc1⟩ := HLN.out j hjl
          subst hA1
          generalize l[j] = v at *
          obtain ⟨v0, v1, v2, v3, v4⟩ := v
          have x3 : wr.cell? ⟨b1, o1 + j * 5 + 3, none⟩ = some (.int .i64 v3) := by
            rw [show o1 + j * 5 + 3 = o1 + 5 * j + 3 from by omega]; exact hc1 3 _ rfl
          have x4 : wr.cell? ⟨b1, o1 + j * 5 + 4, none⟩ = some (.int .i64 v4) := by
            rw [show o1 + j * 5 + 4 = o1 + 5 * j + 4 from by omega]; exact hc1 4 _ rfl
          have i5 : (0 : Int) ≤ (j : Int) := Int.natCast_nonneg _
          have i6 : (j : Int) < (m : Int) := by omega
          clear hc1 hjl
          generalize sumH (List.take j l) = sh at *
          generalize sumLo (List.take j l) = sl at *
          go_wp2_with fail
          go_roundw
          case rel => exact ⟨j + 1, by omega, by go_num, by rw [HS1'.out], by rw [HS2'.out], by first | rfl | trivial⟩
          case measure => simp [intOf]; omega
        · obtain rfl : j = m := by omega
          have HT : Hid (l.take j = l) := List.take_of_length_le (by rw [HM.out]; exact Nat.le_refl _)
          rw [HT.out]
          go_wp2_with fail
          refine HSU.out.mono ?_
          rintro e w8 ⟨rfl, hb8⟩
          have HB8 := Lib.hid (bthen HBW.out hb8)
          clear hb8 HSU HT
          generalize sumH l = sh at *
          generalize sumLo l = sl at *
          go_wp2_with fail
          go_ret
          exact ⟨rfl, HB8.out⟩
theorem gapsPlays_any (A : Option Addr) (c : Nat) (L : List Cl) (w : World) (hm : L.length ≤ maxLen) (hs : Cls w w.heap.size A L) : Calls Try.prog 4 #[.slice A L.length c] w fun e w' => e = .returned (.bool true) ∧ Below w.heap.size w w' := by
  by_cases h : L.length ≤ 100
  · exact gapsPlays_few A L.length c L w rfl h hs
  · exact gapsPlays_many A L.length c w (by omega) hm
end Go.Proofs.Ytloebedipfppeaa
