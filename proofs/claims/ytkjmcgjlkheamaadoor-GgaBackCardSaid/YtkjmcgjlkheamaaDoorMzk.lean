/- The law GgaBack, walked and joined. Printed by genggak.py. -/
import Derived.Test.YtkjmcgjlkheamaaDoorMzj
import Derived.Test.YtkjmcgjlkheamaaDoorMvd
import Derived.Test.YtkjmcgjlkheamaaDoorMvs
namespace Go.Proofs.YtkjmcgjlkheamaaDoor
set_option linter.unusedVariables false
open Go.RowKit

theorem angN_size (b : Bool) (n : Int) (lat : Bool) : (angN b n lat).1.size ≤ 100 ∧ (angN b n lat).2.1.size ≤ 100 := by
  have hl : ∀ x, (toB (angL x lat)).size ≤ 100 := fun x => by
    rw [size_B]
    unfold angL
    have h1 := digL_len (x / 6000000) (wideN lat)
    have h2 := pointL_len (x % 6000000) 2 5
    rw [List.length_append]
    omega
  unfold angN
  split
  · exact ⟨Nat.zero_le _, Nat.zero_le _⟩
  split
  · exact ⟨Nat.zero_le _, Nat.zero_le _⟩
  split
  · exact ⟨hl _, by show (sideB _ _).size ≤ 100; rw [sideB_size]; omega⟩
  · exact ⟨hl _, by show (sideB _ _).size ≤ 100; rw [sideB_size]; omega⟩
theorem wrAng_small {lat : Bool} {n : Bool × Int} {s : Rd} (h : Small s.2) : Small (wrAng lat n s).2 := fun t ht => by
  unfold wrAng at ht
  rcases List.mem_append.1 ht with k | k
  · exact h t k
  · have := angN_size n.1 n.2 lat
    simp only [List.mem_cons, List.not_mem_nil, or_false] at k
    rcases k with rfl | rfl
    · exact this.1
    · exact this.2
theorem clkT_size (c : Clk) : (clkT c).1.size ≤ 100 := by
  unfold clkT
  split
  · exact Nat.zero_le _
  split
  · exact Nat.zero_le _
  · show (toB _).size ≤ 100
    rw [size_B]
    have : (clkTail c.2.2.2.2).length ≤ 3 := by
      unfold clkTail
      split
      · simp
      split
      · simp
      · simp [twoL]
    simp only [List.length_append, twoL, List.length_cons, List.length_nil]
    omega
theorem wrClk_small {c : Clk} {s : Rd} (h : Small s.2) : Small (wrClk c s).2 := wrText_small h (clkT_size c)
theorem wrDig_small {lo hi n : Int} {s : Rd} (h : Small s.2) : Small (wrDig lo hi n s).2 := by
  unfold wrDig
  split
  · exact wrText_small h (by decide)
  · exact wrText_small h (by rw [digT_size]; omega)
theorem putGga_small (g : GgaT) : Small (putGga g).1 := by
  unfold putGga
  refine wrDone_small ?_
  have h1 : Small (wrClk g.1 (0, [])).2 := wrClk_small Small.nil
  have h2 := wrAng_small (lat := true) (n := g.2.1) h1
  have h3 := wrAng_small (lat := false) (n := g.2.2.1) h2
  have h4 := wrDig_small (lo := 0) (hi := 8) (n := g.2.2.2.1) h3
  have h5 := wrNum_small (W := 1) (M := 2) (F := 0) (L := 0) (H := 99) (n := g.2.2.2.2.1) h4
  have h6 := wrNum_small (W := 1) (M := 3) (F := 2) (L := 0) (H := 99999) (n := g.2.2.2.2.2.1) h5
  have h7 := wrCol_small (k := altK) (n := g.2.2.2.2.2.2.1) h6 (by decide)
  have h8 := wrCol_small (k := geoK) (n := g.2.2.2.2.2.2.2.1) h7 (by decide)
  have h9 := wrNum_small (W := 1) (M := 4) (F := 1) (L := 0) (H := 99999) (n := g.2.2.2.2.2.2.2.2.1) h8
  exact wrNum_small (W := 1) (M := 4) (F := 0) (L := 0) (H := 1023) (n := g.2.2.2.2.2.2.2.2.2) h9
theorem range_keep {w w' : World} {b : Nat} {l : List Value} (h : w.rangeAt b 0 l) (hb : b < w.heap.size) (hB : Below w.heap.size w w') : w'.rangeAt b 0 l := fun j v hv => ((bcell hB).1 _ _ hb).trans (h j v hv)
set_option maxRecDepth 8000 in
theorem ggaBack_many (mcb : Bool) (mch : Int) (mcm : Int) (mcs : Int) (mcc : Int) (mlb : Bool) (mln : Int) (mob : Bool) (mon : Int) (mq : Int) (msb : Bool) (msn : Int) (mhb : Bool) (mhn : Int) (mab : Bool) (man : Int) (mgb : Bool) (mgn : Int) (meb : Bool) (men : Int) (mtb : Bool) (mtn : Int) (A : Option Addr) (n c : Nat) (w : World) (HF : ∀ W, Below w.heap.size w W → Hid (Calls Tryd.prog 14 #[.slice A n c] W fun e w' => e = .returned (.bool false) ∧ w' = W)) :
    Calls Tryd.prog 5 #[ggaV mcb mch mcm mcs mcc mlb mln mob mon mq msb msn mhb mhn mab man mgb mgn meb men mtb mtn, .slice A n c] w fun e w' => e = .returned (.bool true) ∧ Below w.heap.size w w' := by
  have HK := fun W => Lib.hid (knows25_any W)
  have HF1 := HF _ (below_new w (.cells (ggaC mcb mch mcm mcs mcc mlb mln mob mon mq msb msn mhb mhn mab man mgb mgn meb men mtb mtn) 27))
  go_enter Tryd.func5, Tryd.ntmps5
  go_wp2_with fail
  refine (HF1.out).mono ?_
  rintro e w' ⟨rfl, rfl⟩
  go_wp2_with fail
  refine ((HK _).out).mono ?_
  rintro e w1 ⟨rfl, hb1⟩
  go_wp2_with fail
  go_ret
  exact ⟨rfl, bthen (below_new _ _) hb1⟩
set_option maxRecDepth 8000 in
set_option maxHeartbeats 8000000 in
theorem ggaBack_few (mcb : Bool) (mch : Int) (mcm : Int) (mcs : Int) (mcc : Int) (mlb : Bool) (mln : Int) (mob : Bool) (mon : Int) (mq : Int) (msb : Bool) (msn : Int) (mhb : Bool) (mhn : Int) (mab : Bool) (man : Int) (mgb : Bool) (mgn : Int) (meb : Bool) (men : Int) (mtb : Bool) (mtn : Int) (xcb : Bool) (xch : Int) (xcm : Int) (xcs : Int) (xcc : Int) (xlb : Bool) (xln : Int) (xob : Bool) (xon : Int) (xq : Int) (xsb : Bool) (xsn : Int) (xhb : Bool) (xhn : Int) (xab : Bool) (xan : Int) (xgb : Bool) (xgn : Int) (xeb : Bool) (xen : Int) (xtb : Bool) (xtn : Int) (F : Int) (A : Option Addr) (n c : Nat) (R fa fb : List ByteArray) (E : Int) (w : World) (hn : Hid (R.length = n)) (hs : Hid (Strs w w.heap.size A R)) (hRz : Hid (∀ f ∈ R, f.size ≤ 100)) (hn40 : n ≤ 40)
    (HF : ∀ W, Below w.heap.size w W → Hid (Calls Tryd.prog 14 #[.slice A n c] W fun e w' => e = .returned (.bool true) ∧ w' = W))
    (HP : ∀ W, Hid (Calls Tryd.prog 9 #[ggaV mcb mch mcm mcs mcc mlb mln mob mon mq msb msn mhb mhn mab man mgb mgn meb men mtb mtn] W (PutPost (fa, E) W)))
    (HE0 : Hid (E ≠ 0 → fa.length = 0))
    (HT1 : Hid (E = 0 → ∀ B d W, (B = none → d = 0) → Strs W W.heap.size B fa → Calls Tryd.prog 15 #[.slice B fa.length d] W fun r w' => r = .returned (.tuple #[ggaV mcb mch mcm mcs mcc mlb mln mob mon mq msb msn mhb mhn mab man mgb mgn meb men mtb mtn, .int .i64 0]) ∧ Below W.heap.size W w'))
    (HT2 : ∀ W, Below w.heap.size w W → Hid (Calls Tryd.prog 15 #[.slice A n c] W fun r w' => r = .returned (.tuple #[ggaV xcb xch xcm xcs xcc xlb xln xob xon xq xsb xsn xhb xhn xab xan xgb xgn xeb xen xtb xtn, .int .i64 F]) ∧ Below W.heap.size W w'))
    (HX0 : Hid (F ≠ 0 → xcb = false ∧ xch = 0 ∧ xcm = 0 ∧ xcs = 0 ∧ xcc = 0 ∧ xlb = false ∧ xln = 0 ∧ xob = false ∧ xon = 0 ∧ xq = 0 ∧ xsb = false ∧ xsn = 0 ∧ xhb = false ∧ xhn = 0 ∧ xab = false ∧ xan = 0 ∧ xgb = false ∧ xgn = 0 ∧ xeb = false ∧ xen = 0 ∧ xtb = false ∧ xtn = 0))
    (HX1 : Hid (F = 0 → (∀ W, Calls Tryd.prog 9 #[ggaV xcb xch xcm xcs xcc xlb xln xob xon xq xsb xsn xhb xhn xab xan xgb xgn xeb xen xtb xtn] W (PutPost (fb, 0) W)) ∧ (∀ B d W, (B = none → d = 0) → Strs W W.heap.size B fb → Calls Tryd.prog 15 #[.slice B 14 d] W fun r w' => r = .returned (.tuple #[ggaV xcb xch xcm xcs xcc xlb xln xob xon xq xsb xsn xhb xhn xab xan xgb xgn xeb xen xtb xtn, .int .i64 0]) ∧ Below W.heap.size W w') ∧ fb.length = 14 ∧ n = 14 ∧ Small fb ∧ NoLonger fb R)) :
    Calls Tryd.prog 5 #[ggaV mcb mch mcm mcs mcc mlb mln mob mon mq msb msn mhb mhn mab man mgb mgn meb men mtb mtn, .slice A n c] w fun e w' => e = .returned (.bool true) ∧ Below w.heap.size w w' := by
  have HK := fun W => Lib.hid (knows25_any W)
  have HB0 := Lib.hid (below_new w (.cells (ggaC mcb mch mcm mcs mcc mlb mln mob mon mq msb msn mhb mhn mab man mgb mgn meb men mtb mtn) 27))
  have HC0 : Hid ((w.alloc (.cells (ggaC mcb mch mcm mcs mcc mlb mln mob mon mq msb msn mhb mhn mab man mgb mgn meb men mtb mtn) 27)).rangeAt w.heap.size 0 (ggaC mcb mch mcm mcs mcc mlb mln mob mon mq msb msn mhb mhn mab man mgb mgn meb men mtb mtn).toList) := range_of (C := ggaC mcb mch mcm mcs mcc mlb mln mob mon mq msb msn mhb mhn mab man mgb mgn meb men mtb mtn) (fun o => World.cell?_alloc_at _ _ _ _ rfl)
  have HZ0 : Hid (w.heap.size < (w.alloc (.cells (ggaC mcb mch mcm mcs mcc mlb mln mob mon mq msb msn mhb mhn mab man mgb mgn meb men mtb mtn) 27)).heap.size) := by show _ < _; simp
  go_enter Tryd.func5, Tryd.ntmps5
  go_wp2_with fail
  refine ((HF _ HB0.out).out).mono ?_
  rintro e w' ⟨rfl, rfl⟩
  go_wp2_with fail
  refine ((HK _).out).mono ?_
  rintro e w1 ⟨rfl, hb1⟩
  have HB1 := Lib.hid (bthen HB0.out hb1)
  have HC1 := Lib.hid (range_keep HC0.out HZ0.out hb1)
  have HZ1 : Hid (w.heap.size < w1.heap.size) := Nat.lt_of_lt_of_le HZ0.out hb1.size
  clear hb1 HB0 HC0 HZ0
  go_upto_region 3 with fail
  try (apply wp_seq_k; intro K_ HK_)
  apply wp_region_lit
  refine wpList_load_mid rfl _ _ rfl w.heap.size 0 rfl [.bool mcb, .int .i64 mch, .int .i64 mcm, .int .i64 mcs, .int .i64 mcc, .bool mlb, .int .i64 mln, .bool mob, .int .i64 mon, .int .i64 mq, .bool msb, .int .i64 msn, .bool mhb, .int .i64 mhn, .bool mab, .int .i64 man, .bool mgb, .int .i64 mgn, .bool meb, .int .i64 men, .bool mtb, .int .i64 mtn] _ HC1.out Tryd.underlying27 rfl gga_size ?_
  go_wp2_with fail
  refine ((HP _).out).mono ?_
  rintro e w2 ⟨v, rfl, A2, c2, rfl, hA2, hs2, -, hb2⟩
  have HB2 := Lib.hid (bthen HB1.out hb2)
  have HC2 := Lib.hid (range_keep HC1.out HZ1.out hb2)
  have HZ2 : Hid (w.heap.size < w2.heap.size) := Nat.lt_of_lt_of_le HZ1.out hb2.size
  have HS2 := Lib.hid hs2
  have HA2 := Lib.hid hA2
  clear hb2 hs2 hA2 HB1 HC1 HZ1 HP HF
  try dsimp only
  repeat (fail_if_success (show Code.wp _ (Code.seq (Code.region 4 _ _) _) _ _ _)
          first | go_values | go_skip | go_guarded | go_step | go_upon | go_back | (simp only [Int.not_lt, Int.not_le] at *; go_simp) | (go_ite <;> go_prune <;> (try go_simp)))
  go_cut [] (fun wx => Hid (Below w.heap.size w wx))
  case first =>
    go_wp2_with fail
    refine (num25_any _ _).mono ?_
    rintro e w' ⟨rfl, rfl⟩
    by_cases hE : E = 0
    · subst hE
      have HT := Lib.hid (HT1.out rfl A2 c2 w2 HA2.out HS2.out)
      clear HT1 HX1 HX0 HE0 HT2
      go_wp2_with fail
      refine (HT.out).mono ?_
      rintro e w3 ⟨rfl, hb3⟩
      have HB3 := Lib.hid (bthen HB2.out hb3)
      have HC3 := Lib.hid (range_keep HC2.out HZ2.out hb3)
      have HZ3 : Hid (w.heap.size < w3.heap.size) := Nat.lt_of_lt_of_le HZ2.out hb3.size
      clear hb3 HC2 HZ2 HB2
      dsimp only
      iterate 13 (first | go_step | go_values)
      have HA4 : Hid (AtC (w3.alloc (.cells #[.bool false, .int .i64 0, .int .i64 0, .int .i64 0, .int .i64 0, .bool false, .int .i64 0, .bool false, .int .i64 0, .int .i64 0, .bool false, .int .i64 0, .bool false, .int .i64 0, .bool false, .int .i64 0, .bool false, .int .i64 0, .bool false, .int .i64 0, .bool false, .int .i64 0] 27)) w3.heap.size #[.bool false, .int .i64 0, .int .i64 0, .int .i64 0, .int .i64 0, .bool false, .int .i64 0, .bool false, .int .i64 0, .int .i64 0, .bool false, .int .i64 0, .bool false, .int .i64 0, .bool false, .int .i64 0, .bool false, .int .i64 0, .bool false, .int .i64 0, .bool false, .int .i64 0]) := fun o => World.cell?_alloc_at _ _ _ _ rfl
      have HF4 : Hid (∀ o, (w3.alloc (.cells #[.bool false, .int .i64 0, .int .i64 0, .int .i64 0, .int .i64 0, .bool false, .int .i64 0, .bool false, .int .i64 0, .int .i64 0, .bool false, .int .i64 0, .bool false, .int .i64 0, .bool false, .int .i64 0, .bool false, .int .i64 0, .bool false, .int .i64 0, .bool false, .int .i64 0] 27)).frozen? ⟨w3.heap.size, o, none⟩ = false) := fun o => by rw [frozen?_alloc_cells]; exact frozen_past _ _ _ (Nat.le_refl _)
      have HL4 : Hid (Below w3.heap.size w3 (w3.alloc (.cells #[.bool false, .int .i64 0, .int .i64 0, .int .i64 0, .int .i64 0, .bool false, .int .i64 0, .bool false, .int .i64 0, .int .i64 0, .bool false, .int .i64 0, .bool false, .int .i64 0, .bool false, .int .i64 0, .bool false, .int .i64 0, .bool false, .int .i64 0, .bool false, .int .i64 0] 27))) := below_new _ _
      generalize hW4 : w3.alloc (.cells #[.bool false, .int .i64 0, .int .i64 0, .int .i64 0, .int .i64 0, .bool false, .int .i64 0, .bool false, .int .i64 0, .int .i64 0, .bool false, .int .i64 0, .bool false, .int .i64 0, .bool false, .int .i64 0, .bool false, .int .i64 0, .bool false, .int .i64 0, .bool false, .int .i64 0] 27) = W4 at *
      clear hW4
      refine wpList_store_mid rfl _ _ _ rfl w3.heap.size 0 (ggaC mcb mch mcm mcs mcc mlb mln mob mon mq msb msn mhb mhn mab man mgb mgn meb men mtb mtn) rfl rfl (there_of HA4.out HF4.out rfl) gga_size (by simp [Value.oneCell']) ?_
      have hY := World.rangeAt_setCells_same W4 w3.heap.size 0 (ggaC mcb mch mcm mcs mcc mlb mln mob mon mq msb msn mhb mhn mab man mgb mgn meb men mtb mtn).toList (there_of HA4.out HF4.out rfl)
      have hL5 := below_cells (Nat.le_refl w3.heap.size) (ggaC mcb mch mcm mcs mcc mlb mln mob mon mq msb msn mhb mhn mab man mgb mgn meb men mtb mtn).toList 0 W4 HL4.out
      generalize World.setCells W4 w3.heap.size 0 (ggaC mcb mch mcm mcs mcc mlb mln mob mon mq msb msn mhb mhn mab man mgb mgn meb men mtb mtn).toList = W5 at *
      have HY := Lib.hid hY
      have HM5 := Lib.hid (range_keep HC3.out HZ3.out hL5)
      have HB5 := Lib.hid (bthen HB3.out hL5)
      clear hY hL5 HA4 HF4 HL4 HC3 HZ3 HB3
      go_upto_region 6 with fail
      try (apply wp_seq_k; intro K2_ HK2_)
      apply wp_region_lit
      refine wpList_load_mid rfl _ _ rfl w3.heap.size 0 rfl [.bool mcb, .int .i64 mch, .int .i64 mcm, .int .i64 mcs, .int .i64 mcc, .bool mlb, .int .i64 mln, .bool mob, .int .i64 mon, .int .i64 mq, .bool msb, .int .i64 msn, .bool mhb, .int .i64 mhn, .bool mab, .int .i64 man, .bool mgb, .int .i64 mgn, .bool meb, .int .i64 men, .bool mtb, .int .i64 mtn] _ HY.out Tryd.underlying27 rfl gga_size ?_
      refine wpList_load_mid rfl _ _ rfl w.heap.size 0 rfl [.bool mcb, .int .i64 mch, .int .i64 mcm, .int .i64 mcs, .int .i64 mcc, .bool mlb, .int .i64 mln, .bool mob, .int .i64 mon, .int .i64 mq, .bool msb, .int .i64 msn, .bool mhb, .int .i64 mhn, .bool mab, .int .i64 man, .bool mgb, .int .i64 mgn, .bool meb, .int .i64 men, .bool mtb, .int .i64 mtn] _ HM5.out Tryd.underlying27 rfl gga_size ?_
      clear HY HM5
      go_wp2_with fail
      refine (num25_any _ _).mono ?_
      rintro e w' ⟨rfl, rfl⟩
      go_wp2_with fail
      go_meet
      exact HB5
    · have hne : (E == 0) = false := by rw [beq_eq_false_iff_ne]; exact hE
      go_wp2_with fail
      go_meet
      exact HB2
  case rest =>
  have HB3 := hcut
  clear HT1 HC2 HZ2 HS2 HA2 HB2
  go_wp2_with fail
  refine ((HT2 _ HB3.out).out).mono ?_
  rintro e w4 ⟨rfl, hb4⟩
  have HB4 := Lib.hid (bthen HB3.out hb4)
  clear hb4 HB3 hcut HT2
  dsimp only
  iterate 13 (first | go_step | go_values)
  have HA : Hid (AtC (w4.alloc (.cells #[.bool false, .int .i64 0, .int .i64 0, .int .i64 0, .int .i64 0, .bool false, .int .i64 0, .bool false, .int .i64 0, .int .i64 0, .bool false, .int .i64 0, .bool false, .int .i64 0, .bool false, .int .i64 0, .bool false, .int .i64 0, .bool false, .int .i64 0, .bool false, .int .i64 0] 27)) w4.heap.size #[.bool false, .int .i64 0, .int .i64 0, .int .i64 0, .int .i64 0, .bool false, .int .i64 0, .bool false, .int .i64 0, .int .i64 0, .bool false, .int .i64 0, .bool false, .int .i64 0, .bool false, .int .i64 0, .bool false, .int .i64 0, .bool false, .int .i64 0, .bool false, .int .i64 0]) := fun o => World.cell?_alloc_at _ _ _ _ rfl
  have HFZ : Hid (∀ o, (w4.alloc (.cells #[.bool false, .int .i64 0, .int .i64 0, .int .i64 0, .int .i64 0, .bool false, .int .i64 0, .bool false, .int .i64 0, .int .i64 0, .bool false, .int .i64 0, .bool false, .int .i64 0, .bool false, .int .i64 0, .bool false, .int .i64 0, .bool false, .int .i64 0, .bool false, .int .i64 0] 27)).frozen? ⟨w4.heap.size, o, none⟩ = false) := fun o => by rw [frozen?_alloc_cells]; exact frozen_past _ _ _ (Nat.le_refl _)
  have HL : Hid (Below w4.heap.size w4 (w4.alloc (.cells #[.bool false, .int .i64 0, .int .i64 0, .int .i64 0, .int .i64 0, .bool false, .int .i64 0, .bool false, .int .i64 0, .int .i64 0, .bool false, .int .i64 0, .bool false, .int .i64 0, .bool false, .int .i64 0, .bool false, .int .i64 0, .bool false, .int .i64 0, .bool false, .int .i64 0] 27)) ∧ w4.heap.size < (w4.alloc (.cells #[.bool false, .int .i64 0, .int .i64 0, .int .i64 0, .int .i64 0, .bool false, .int .i64 0, .bool false, .int .i64 0, .int .i64 0, .bool false, .int .i64 0, .bool false, .int .i64 0, .bool false, .int .i64 0, .bool false, .int .i64 0, .bool false, .int .i64 0, .bool false, .int .i64 0] 27)).heap.size) := ⟨below_new _ _, by simp⟩
  generalize hW : w4.alloc (.cells #[.bool false, .int .i64 0, .int .i64 0, .int .i64 0, .int .i64 0, .bool false, .int .i64 0, .bool false, .int .i64 0, .int .i64 0, .bool false, .int .i64 0, .bool false, .int .i64 0, .bool false, .int .i64 0, .bool false, .int .i64 0, .bool false, .int .i64 0, .bool false, .int .i64 0] 27) = W4 at *
  clear hW
  refine wpList_store_mid rfl _ _ _ rfl w4.heap.size 0 (ggaC xcb xch xcm xcs xcc xlb xln xob xon xq xsb xsn xhb xhn xab xan xgb xgn xeb xen xtb xtn) rfl rfl (there_of HA.out HFZ.out rfl) gga_size (by simp [Value.oneCell']) ?_
  have hY := World.rangeAt_setCells_same W4 w4.heap.size 0 (ggaC xcb xch xcm xcs xcc xlb xln xob xon xq xsb xsn xhb xhn xab xan xgb xgn xeb xen xtb xtn).toList (there_of HA.out HFZ.out rfl)
  have hL5 := below_cells (Nat.le_refl w4.heap.size) (ggaC xcb xch xcm xcs xcc xlb xln xob xon xq xsb xsn xhb xhn xab xan xgb xgn xeb xen xtb xtn).toList 0 W4 HL.out.1
  have hz5 : w4.heap.size < (World.setCells W4 w4.heap.size 0 (ggaC xcb xch xcm xcs xcc xlb xln xob xon xq xsb xsn xhb xhn xab xan xgb xgn xeb xen xtb xtn).toList).heap.size := Nat.lt_of_lt_of_le HL.out.2 (below_cells (Nat.le_refl w4.heap.size) (ggaC xcb xch xcm xcs xcc xlb xln xob xon xq xsb xsn xhb xhn xab xan xgb xgn xeb xen xtb xtn).toList 0 W4 (Below.refl _ _)).size
  generalize World.setCells W4 w4.heap.size 0 (ggaC xcb xch xcm xcs xcc xlb xln xob xon xq xsb xsn xhb xhn xab xan xgb xgn xeb xen xtb xtn).toList = W5 at *
  have HY := Lib.hid hY
  have HB5 := Lib.hid (bthen HB4.out hL5)
  clear hY
  have HZ5 := Lib.hid hz5
  clear hL5 hz5 HA HFZ HL HB4
  go_wp2_with fail
  refine (num25_any _ _).mono ?_
  rintro e w' ⟨rfl, rfl⟩
  by_cases hF : F = 0
  · subst hF
    obtain ⟨hp, ht, h14, hn14, hsm, hnl⟩ := HX1.out rfl
    subst hn14
    have HP5 := fun W => Lib.hid (hp W)
    have HT5 := Lib.hid ht
    have HSM := Lib.hid hsm
    have HNL := Lib.hid hnl
    have HN14 := Lib.hid h14
    clear hp ht hsm hnl h14 HX1 HX0 HE0
    go_upto_region 11 with fail
    try (apply wp_seq_k; intro K3_ HK3_)
    apply wp_region_lit
    refine wpList_load_mid rfl _ _ rfl w4.heap.size 0 rfl [.bool xcb, .int .i64 xch, .int .i64 xcm, .int .i64 xcs, .int .i64 xcc, .bool xlb, .int .i64 xln, .bool xob, .int .i64 xon, .int .i64 xq, .bool xsb, .int .i64 xsn, .bool xhb, .int .i64 xhn, .bool xab, .int .i64 xan, .bool xgb, .int .i64 xgn, .bool xeb, .int .i64 xen, .bool xtb, .int .i64 xtn] _ HY.out Tryd.underlying27 rfl gga_size ?_
    go_wp2_with fail
    refine ((HP5 _).out).mono ?_
    rintro e w6 ⟨v, rfl, A5, c5, rfl, hA5, hs5, -, hb6⟩
    have HB6 := Lib.hid (bthen HB5.out hb6)
    have HY6 := Lib.hid (range_keep HY.out HZ5.out hb6)
    have HZ6 : Hid (w4.heap.size < w6.heap.size) := Nat.lt_of_lt_of_le HZ5.out hb6.size
    have HS6 := Lib.hid hs5
    have HT6 := Lib.hid (HT5.out A5 c5 w6 hA5 hs5)
    rw [HN14.out]
    clear hs5 hA5 hb6 HT5 HP5 HY HZ5 HB5
    go_wp2_with fail
    refine (HT6.out).mono ?_
    rintro e w7 ⟨rfl, hb7⟩
    have HB7 := Lib.hid (bthen HB6.out hb7)
    dsimp only
    iterate 13 (first | go_step | go_values)
    have HYO := HY6
    have HA : Hid (AtC (w7.alloc (.cells #[.bool false, .int .i64 0, .int .i64 0, .int .i64 0, .int .i64 0, .bool false, .int .i64 0, .bool false, .int .i64 0, .int .i64 0, .bool false, .int .i64 0, .bool false, .int .i64 0, .bool false, .int .i64 0, .bool false, .int .i64 0, .bool false, .int .i64 0, .bool false, .int .i64 0] 27)) w7.heap.size #[.bool false, .int .i64 0, .int .i64 0, .int .i64 0, .int .i64 0, .bool false, .int .i64 0, .bool false, .int .i64 0, .int .i64 0, .bool false, .int .i64 0, .bool false, .int .i64 0, .bool false, .int .i64 0, .bool false, .int .i64 0, .bool false, .int .i64 0, .bool false, .int .i64 0]) := fun o => World.cell?_alloc_at _ _ _ _ rfl
    have HFZ : Hid (∀ o, (w7.alloc (.cells #[.bool false, .int .i64 0, .int .i64 0, .int .i64 0, .int .i64 0, .bool false, .int .i64 0, .bool false, .int .i64 0, .int .i64 0, .bool false, .int .i64 0, .bool false, .int .i64 0, .bool false, .int .i64 0, .bool false, .int .i64 0, .bool false, .int .i64 0, .bool false, .int .i64 0] 27)).frozen? ⟨w7.heap.size, o, none⟩ = false) := fun o => by rw [frozen?_alloc_cells]; exact frozen_past _ _ _ (Nat.le_refl _)
    have HL : Hid (Below w7.heap.size w7 (w7.alloc (.cells #[.bool false, .int .i64 0, .int .i64 0, .int .i64 0, .int .i64 0, .bool false, .int .i64 0, .bool false, .int .i64 0, .int .i64 0, .bool false, .int .i64 0, .bool false, .int .i64 0, .bool false, .int .i64 0, .bool false, .int .i64 0, .bool false, .int .i64 0, .bool false, .int .i64 0] 27)) ∧ w7.heap.size < (w7.alloc (.cells #[.bool false, .int .i64 0, .int .i64 0, .int .i64 0, .int .i64 0, .bool false, .int .i64 0, .bool false, .int .i64 0, .int .i64 0, .bool false, .int .i64 0, .bool false, .int .i64 0, .bool false, .int .i64 0, .bool false, .int .i64 0, .bool false, .int .i64 0, .bool false, .int .i64 0] 27)).heap.size) := ⟨below_new _ _, by simp⟩
    generalize hW : w7.alloc (.cells #[.bool false, .int .i64 0, .int .i64 0, .int .i64 0, .int .i64 0, .bool false, .int .i64 0, .bool false, .int .i64 0, .int .i64 0, .bool false, .int .i64 0, .bool false, .int .i64 0, .bool false, .int .i64 0, .bool false, .int .i64 0, .bool false, .int .i64 0, .bool false, .int .i64 0] 27) = W8 at *
    clear hW
    refine wpList_store_mid rfl _ _ _ rfl w7.heap.size 0 (ggaC xcb xch xcm xcs xcc xlb xln xob xon xq xsb xsn xhb xhn xab xan xgb xgn xeb xen xtb xtn) rfl rfl (there_of HA.out HFZ.out rfl) gga_size (by simp [Value.oneCell']) ?_
    have hY := World.rangeAt_setCells_same W8 w7.heap.size 0 (ggaC xcb xch xcm xcs xcc xlb xln xob xon xq xsb xsn xhb xhn xab xan xgb xgn xeb xen xtb xtn).toList (there_of HA.out HFZ.out rfl)
    have hL5 := below_cells (Nat.le_refl w7.heap.size) (ggaC xcb xch xcm xcs xcc xlb xln xob xon xq xsb xsn xhb xhn xab xan xgb xgn xeb xen xtb xtn).toList 0 W8 HL.out.1
    have hz5 : w7.heap.size < (World.setCells W8 w7.heap.size 0 (ggaC xcb xch xcm xcs xcc xlb xln xob xon xq xsb xsn xhb xhn xab xan xgb xgn xeb xen xtb xtn).toList).heap.size := Nat.lt_of_lt_of_le HL.out.2 (below_cells (Nat.le_refl w7.heap.size) (ggaC xcb xch xcm xcs xcc xlb xln xob xon xq xsb xsn xhb xhn xab xan xgb xgn xeb xen xtb xtn).toList 0 W8 (Below.refl _ _)).size
    generalize World.setCells W8 w7.heap.size 0 (ggaC xcb xch xcm xcs xcc xlb xln xob xon xq xsb xsn xhb xhn xab xan xgb xgn xeb xen xtb xtn).toList = W9 at *
    have HY := Lib.hid hY
    have HB9 := Lib.hid (bthen HB7.out hL5)
    clear hY
    have h69 : Below w6.heap.size w6 W9 := bthen hb7 hL5
    have HY9 := Lib.hid (range_keep HYO.out HZ6.out h69)
    have HS9 : Hid (Strs W9 W9.heap.size A5 fb) := (HS6.out.below h69 (Nat.le_refl _)).more h69.size
    have HR9 : Hid (Strs W9 W9.heap.size A R) := (hs.out.below HB9.out (Nat.le_refl _)).more HB9.out.size
    clear hL5 hz5 HA HFZ HL HB7 h69 HYO HY6 HS6 hb7 HB6
    go_wp2_with fail
    refine (num25_any _ _).mono ?_
    rintro e w' ⟨rfl, rfl⟩
    go_wp2_with fail
    refine (num25_any _ _).mono ?_
    rintro e w' ⟨rfl, rfl⟩
    dsimp only
    iterate 11 (first | go_values | go_skip | go_guarded | go_step | go_upon)
    refine wp_load_mid _ _ rfl w4.heap.size 0 rfl [.bool xcb, .int .i64 xch, .int .i64 xcm, .int .i64 xcs, .int .i64 xcc, .bool xlb, .int .i64 xln, .bool xob, .int .i64 xon, .int .i64 xq, .bool xsb, .int .i64 xsn, .bool xhb, .int .i64 xhn, .bool xab, .int .i64 xan, .bool xgb, .int .i64 xgn, .bool xeb, .int .i64 xen, .bool xtb, .int .i64 xtn] _ HY9.out Tryd.underlying27 rfl gga_size ?_
    go_step
    go_simp
    go_guarded
    refine wp_load_mid _ _ rfl w7.heap.size 0 rfl [.bool xcb, .int .i64 xch, .int .i64 xcm, .int .i64 xcs, .int .i64 xcc, .bool xlb, .int .i64 xln, .bool xob, .int .i64 xon, .int .i64 xq, .bool xsb, .int .i64 xsn, .bool xhb, .int .i64 xhn, .bool xab, .int .i64 xan, .bool xgb, .int .i64 xgn, .bool xeb, .int .i64 xen, .bool xtb, .int .i64 xtn] _ HY.out Tryd.underlying27 rfl gga_size ?_
    clear HY HY9
    go_wp2_with fail
    go_loopw [15] (fun i wr => ∃ k nq : Nat, k ≤ 14 ∧ i = .int .i64 k ∧ wr = W9.drewN nq) (fun i _ => 14 - (intOf i).toNat)
    case atStart => exact ⟨0, 0, Nat.zero_le _, rfl, rfl⟩
    case round =>
      obtain ⟨k, nq, hk, rfl, rfl⟩ := hrel
      by_cases hlt : k < 14
      · have hkb : k < fb.length := by rw [HN14.out]; exact hlt
        have hkr : k < R.length := by rw [hn.out]; exact hlt
        obtain ⟨a1, o1, hA1, hb1, hc1⟩ := HS9.out k hkb
        obtain ⟨a2, o2, hA2, hb2, hc2⟩ := HR9.out k hkr
        subst hA1 hA2
        have i1 : (0 : Int) ≤ (k : Int) := Int.natCast_nonneg _
        have i2 : (k : Int) < 14 := by omega
        have hle : (fb[k].size : Int) ≤ (R[k].size : Int) := by
          have := HNL.out k fb[k] R[k] (List.getElem?_eq_getElem hkb) (List.getElem?_eq_getElem hkr)
          omega
        have z1 : fb[k].size ≤ 100 := HSM.out _ (List.getElem_mem _)
        have z2 : R[k].size ≤ 100 := hRz.out _ (List.getElem_mem _)
        generalize fb[k] = f at *
        generalize R[k] = g at *
        clear hkb hkr
        go_wp2_with fail
        go_quiet (fail)
        go_wp2_with fail
        go_roundw
        case rel => exact ⟨k + 1, _, by omega, by go_num, rfl⟩
        case measure => simp [intOf]; omega
      · obtain rfl : k = 14 := by omega
        go_wp2_with fail
        go_ret
        exact ⟨rfl, bdrewN HB9.out _⟩
  · have hne : (F != 0) = true := by rw [bne_iff_ne]; exact hF
    have HE2 := HE0
    obtain ⟨rfl, rfl, rfl, rfl, rfl, rfl, rfl, rfl, rfl, rfl, rfl, rfl, rfl, rfl, rfl, rfl, rfl, rfl, rfl, rfl, rfl, rfl⟩ := HX0.out hF
    clear HX1 HX0
    obtain ⟨q, hq⟩ : ∃ q, fa.length = q := ⟨_, rfl⟩
    rw [hq] at HE2 ⊢
    clear hq HE0
    go_upto_region 10 with fail
    try (apply wp_seq_k; intro K3_ HK3_)
    apply wp_region_lit
    refine wpList_load_mid rfl _ _ rfl w4.heap.size 0 rfl [.bool false, .int .i64 0, .int .i64 0, .int .i64 0, .int .i64 0, .bool false, .int .i64 0, .bool false, .int .i64 0, .int .i64 0, .bool false, .int .i64 0, .bool false, .int .i64 0, .bool false, .int .i64 0, .bool false, .int .i64 0, .bool false, .int .i64 0, .bool false, .int .i64 0] _ HY.out Tryd.underlying27 rfl gga_size ?_
    clear HY
    by_cases hE : E = 0
    · subst hE
      go_wp2_with fail
      refine (num25_any _ _).mono ?_
      rintro e w' ⟨rfl, rfl⟩
      go_wp2_with fail
      go_ret
      exact ⟨by rfl, HB5.out⟩
    · have hne2 : (E == 0) = false := by rw [beq_eq_false_iff_ne]; exact hE
      have hq0 := HE2.out hE
      subst hq0
      go_wp2_with fail
      refine (num25_any _ _).mono ?_
      rintro e w' ⟨rfl, rfl⟩
      go_wp2_with fail
      go_ret
      exact ⟨by rfl, HB5.out⟩
theorem ggaTaken_any {R : List ByteArray} {E : Int} (xcb : Bool) (xch : Int) (xcm : Int) (xcs : Int) (xcc : Int) (xlb : Bool) (xln : Int) (xob : Bool) (xon : Int) (xq : Int) (xsb : Bool) (xsn : Int) (xhb : Bool) (xhn : Int) (xab : Bool) (xan : Int) (xgb : Bool) (xgn : Int) (xeb : Bool) (xen : Int) (xtb : Bool) (xtn : Int) (ht : takeGga R = (((xcb, xch, xcm, xcs, xcc), (xlb, xln), (xob, xon), xq, (xsb, xsn), (xhb, xhn), (xab, xan), (xgb, xgn), (xeb, xen), (xtb, xtn)), E)) (hz : Small R) (B : Option Addr) (d : Nat) (W : World) (hB : B = none → d = 0) (hs : Strs W W.heap.size B R) :
    Calls Tryd.prog 15 #[.slice B R.length d] W fun r w' => r = .returned (.tuple #[ggaV xcb xch xcm xcs xcc xlb xln xob xon xq xsb xsn xhb xhn xab xan xgb xgn xeb xen xtb xtn, .int .i64 E]) ∧ Below W.heap.size W w' := by
  have := ggaTake_any B R d W hB hs (fun t h => Nat.le_trans (hz t h) (by omega))
  rw [ht] at this
  exact this
theorem noLonger_small {T U : List ByteArray} (h : NoLonger T U) (hl : T.length = U.length) (hU : Small U) : Small T := fun t ht => by
  obtain ⟨k, hk, rfl⟩ := List.getElem_of_mem ht
  exact Nat.le_trans (h k _ _ (List.getElem?_eq_getElem hk) (List.getElem?_eq_getElem (hl ▸ hk))) (hU _ (List.getElem_mem _))
theorem ggaBack_any (mcb : Bool) (mch : Int) (mcm : Int) (mcs : Int) (mcc : Int) (mlb : Bool) (mln : Int) (mob : Bool) (mon : Int) (mq : Int) (msb : Bool) (msn : Int) (mhb : Bool) (mhn : Int) (mab : Bool) (man : Int) (mgb : Bool) (mgn : Int) (meb : Bool) (men : Int) (mtb : Bool) (mtn : Int) (A : Option Addr) (c : Nat) (fs : List ByteArray) (w : World) (hA : A = none → c = 0) (hn : fs.length ≤ maxLen) (hs : Strs w w.heap.size A fs) (hz : ∀ f ∈ fs, f.size ≤ maxLen) :
    Calls Tryd.prog 5 #[ggaV mcb mch mcm mcs mcc mlb mln mob mon mq msb msn mhb mhn mab man mgb mgn meb men mtb mtn, .slice A fs.length c] w fun e w' => e = .returned (.bool true) ∧ Below w.heap.size w w' := by
  have hst : ∀ W, Below w.heap.size w W → Strs W W.heap.size A fs := fun W hb => (hs.below hb (Nat.le_refl _)).more hb.size
  have hf : ∀ W, Below w.heap.size w W → Calls Tryd.prog 14 #[.slice A fs.length c] W fun e w' => e = .returned (.bool (fewL fs)) ∧ w' = W := fun W hb => r25Few_any A fs.length c fs W rfl (hst W hb) hz hn
  cases hfew : fewL fs with
  | false =>
    rw [hfew] at hf
    exact ggaBack_many mcb mch mcm mcs mcc mlb mln mob mon mq msb msn mhb mhn mab man mgb mgn meb men mtb mtn A fs.length c w hf
  | true =>
    rw [hfew] at hf
    obtain ⟨h40, h100⟩ := (fewL_iff fs).1 hfew
    obtain ⟨⟨⟨⟨xcb, xch, xcm, xcs, xcc⟩, ⟨xlb, xln⟩, ⟨xob, xon⟩, xq, ⟨xsb, xsn⟩, ⟨xhb, xhn⟩, ⟨xab, xan⟩, ⟨xgb, xgn⟩, ⟨xeb, xen⟩, ⟨xtb, xtn⟩⟩, F⟩, hX⟩ : ∃ x, takeGga fs = x := ⟨_, rfl⟩
    have hX1 : (takeGga fs).1 = ((xcb, xch, xcm, xcs, xcc), (xlb, xln), (xob, xon), xq, (xsb, xsn), (xhb, xhn), (xab, xan), (xgb, xgn), (xeb, xen), (xtb, xtn)) := by rw [hX]
    have hX2 : (takeGga fs).2 = F := by rw [hX]
    refine ggaBack_few mcb mch mcm mcs mcc mlb mln mob mon mq msb msn mhb mhn mab man mgb mgn meb men mtb mtn xcb xch xcm xcs xcc xlb xln xob xon xq xsb xsn xhb xhn xab xan xgb xgn xeb xen xtb xtn F A fs.length c fs (putGga ((mcb, mch, mcm, mcs, mcc), (mlb, mln), (mob, mon), mq, (msb, msn), (mhb, mhn), (mab, man), (mgb, mgn), (meb, men), (mtb, mtn))).1 (putGga ((xcb, xch, xcm, xcs, xcc), (xlb, xln), (xob, xon), xq, (xsb, xsn), (xhb, xhn), (xab, xan), (xgb, xgn), (xeb, xen), (xtb, xtn))).1 (putGga ((mcb, mch, mcm, mcs, mcc), (mlb, mln), (mob, mon), mq, (msb, msn), (mhb, mhn), (mab, man), (mgb, mgn), (meb, men), (mtb, mtn))).2 w rfl hs h100 h40 hf
      (fun W => ggaPut_any mcb mch mcm mcs mcc mlb mln mob mon mq msb msn mhb mhn mab man mgb mgn meb men mtb mtn W) (fun h => ?_) (fun h => ?_) (fun W hb => ?_) (fun h => ?_) (fun h => ?_)
    · have : (putGga ((mcb, mch, mcm, mcs, mcc), (mlb, mln), (mob, mon), mq, (msb, msn), (mhb, mhn), (mab, man), (mgb, mgn), (meb, men), (mtb, mtn))).1 = [] := by unfold putGga at h ⊢; exact wrDone_none h
      rw [this]; rfl
    · obtain ⟨h1, -⟩ := gga_put_take h
      exact fun B d W hB hS => ggaTaken_any mcb mch mcm mcs mcc mlb mln mob mon mq msb msn mhb mhn mab man mgb mgn meb men mtb mtn h1 (putGga_small _) B d W hB hS
    · exact ggaTaken_any xcb xch xcm xcs xcc xlb xln xob xon xq xsb xsn xhb xhn xab xan xgb xgn xeb xen xtb xtn hX h100 A c W hA (hst W hb)
    · have h1 := takeGga_no (R := fs) (by rw [hX2]; exact h)
      rw [hX1] at h1
      simp only [zeroF, zC, zN, Prod.mk.injEq] at h1
      simpa only [and_assoc] using h1
    · obtain ⟨h1, h2, h3⟩ := gga_take_put (R := fs) (by rw [hX2]; exact h)
      rw [hX1] at h2 h3
      obtain ⟨h4, h5⟩ := gga_put_take h2
      refine ⟨fun W => ?_, fun B d W hB hS => ?_, h5, h1, putGga_small _, h3⟩
      · have := ggaPut_any xcb xch xcm xcs xcc xlb xln xob xon xq xsb xsn xhb xhn xab xan xgb xgn xeb xen xtb xtn W
        rw [show putGga ((xcb, xch, xcm, xcs, xcc), (xlb, xln), (xob, xon), xq, (xsb, xsn), (xhb, xhn), (xab, xan), (xgb, xgn), (xeb, xen), (xtb, xtn)) = ((putGga ((xcb, xch, xcm, xcs, xcc), (xlb, xln), (xob, xon), xq, (xsb, xsn), (xhb, xhn), (xab, xan), (xgb, xgn), (xeb, xen), (xtb, xtn))).1, 0) from Prod.ext rfl h2] at this
        exact this
      · have := ggaTaken_any xcb xch xcm xcs xcc xlb xln xob xon xq xsb xsn xhb xhn xab xan xgb xgn xeb xen xtb xtn h4 (putGga_small _) B d W hB hS
        rw [h5] at this
        exact this
end Go.Proofs.YtkjmcgjlkheamaaDoor
