/- Layer 26: knows. Printed by genrmcs.py. -/
import Derived.Test.YtfgopmfaeooadaaDoorMzs
import Derived.Test.YtfgopmfaeooadaaDoorMzq
import Derived.Test.YtfgopmfaeooadaaDoorMzk
namespace Go.Proofs.YtfgopmfaeooadaaDoor
set_option linter.unusedVariables false
open Go.RowKit

theorem num26_any (n : Int) (w : World) : Calls Tryd.prog 12 #[.int .i64 n] w fun e w' => e = .returned (.int .i64 n) ∧ w = w' := by
  go_enter Tryd.func12, Tryd.ntmps12
  go_wp2
  go_ret
  exact ⟨rfl, rfl⟩
abbrev knM : List ByteArray := [ByteArray.empty, ⟨#[86]⟩, ByteArray.empty, ByteArray.empty, ByteArray.empty, ByteArray.empty, ByteArray.empty, ByteArray.empty, ByteArray.empty, ByteArray.empty, ByteArray.empty]
abbrev knMP : List ByteArray := [ByteArray.empty, ⟨#[65]⟩, ByteArray.empty, ByteArray.empty, ByteArray.empty, ByteArray.empty, ByteArray.empty, ByteArray.empty, ByteArray.empty, ByteArray.empty, ByteArray.empty]
theorem knM_take : takeRmc knM = (zeroM, 0) := by
  have h : (takeRmc knM).1.1 = zC ∧ (takeRmc knM).1.2.1 = false ∧ (takeRmc knM).1.2.2.1 = zN ∧ (takeRmc knM).1.2.2.2.1 = zN ∧ (takeRmc knM).1.2.2.2.2.1 = zN ∧ (takeRmc knM).1.2.2.2.2.2.1 = zN ∧ (takeRmc knM).1.2.2.2.2.2.2.1 = zD ∧ (takeRmc knM).1.2.2.2.2.2.2.2 = zN ∧ (takeRmc knM).2 = 0 := by decide +kernel
  generalize takeRmc knM = x at *
  obtain ⟨⟨a, b, c, d, e, f, g, i⟩, E⟩ := x
  obtain ⟨h1, h2, h3, h4, h5, h6, h7, h8, h9⟩ := h
  simp only at h1 h2 h3 h4 h5 h6 h7 h8 h9
  subst h1 h2 h3 h4 h5 h6 h7 h8 h9
  rfl
theorem knM_put : putRmc (zC, true, zN, zN, zN, zN, zD, zN) = (knMP, 0) := by
  have h : (putRmc (zC, true, zN, zN, zN, zN, zD, zN)).1 = knMP ∧ (putRmc (zC, true, zN, zN, zN, zN, zD, zN)).2 = 0 := by decide +kernel
  exact Prod.ext h.1 h.2
abbrev knMC : Array Value := #[.string ⟨#[]⟩, .string ⟨#[86]⟩, .string ⟨#[]⟩, .string ⟨#[]⟩, .string ⟨#[]⟩, .string ⟨#[]⟩, .string ⟨#[]⟩, .string ⟨#[]⟩, .string ⟨#[]⟩, .string ⟨#[]⟩, .string ⟨#[]⟩]
set_option maxRecDepth 8000 in
set_option maxHeartbeats 4000000 in
theorem knows26_any (w : World) : Calls Tryd.prog 10 #[] w fun e w' => e = .returned (.bool true) ∧ Below w.heap.size w w' := by
  have HB0 := Lib.hid (below_new w (.cells knMC 9))
  have HST : Hid (Strs (w.alloc (.cells knMC 9)) (w.alloc (.cells knMC 9)).heap.size (some ⟨w.heap.size, 0, none⟩) knM) := fun k hk => by
    refine ⟨w.heap.size, 0, rfl, by simp, ?_⟩
    rw [Nat.zero_add, World.cell?_alloc_at _ _ _ _ rfl]
    have hk : k < 11 := hk
    rcases (by omega : k = 0 ∨ k = 1 ∨ k = 2 ∨ k = 3 ∨ k = 4 ∨ k = 5 ∨ k = 6 ∨ k = 7 ∨ k = 8 ∨ k = 9 ∨ k = 10) with rfl | rfl | rfl | rfl | rfl | rfl | rfl | rfl | rfl | rfl | rfl <;> rfl
  have HT := rmcTake_any (some ⟨w.heap.size, 0, none⟩) knM 11 (w.alloc (.cells knMC 9)) (fun q => by cases q) HST.out (by decide +kernel)
  rw [knM_take] at HT
  have HT1 : Hid (Calls Tryd.prog 13 #[.slice (some ⟨w.heap.size, 0, none⟩) 11 11] (w.alloc (.cells knMC 9)) (RmcPost (zeroM, 0) (w.alloc (.cells knMC 9)))) := HT
  have HP : ∀ W, Hid (Calls Tryd.prog 11 #[rmcV false 0 0 0 0 true false 0 false 0 false 0 false 0 false 0 false 0 0 0] W (PutPost (knMP, 0) W)) := fun W => by
    have := rmcPut_any false 0 0 0 0 true false 0 false 0 false 0 false 0 false 0 false 0 0 0 W
    rw [show putRmc ((false, 0, 0, 0, 0), true, (false, 0), (false, 0), (false, 0), (false, 0), (false, 0, 0, 0), (false, 0)) = (knMP, 0) from knM_put] at this
    exact this
  clear HT HST
  go_enter Tryd.func10, Tryd.ntmps10
  go_wp2_with fail
  generalize hW0 : w.alloc (.cells knMC 9) = W0 at *
  clear hW0
  refine HT1.out.mono ?_
  rintro r w1 ⟨rfl, hb1⟩
  have HB1 := Lib.hid (bthen HB0.out hb1)
  clear hb1 HT1 HB0
  dsimp only
  iterate 13 (first | go_step | go_values)
  have HA2 : Hid (AtC (w1.alloc (.cells (rmcC false 0 0 0 0 false false 0 false 0 false 0 false 0 false 0 false 0 0 0) 38)) w1.heap.size (rmcC false 0 0 0 0 false false 0 false 0 false 0 false 0 false 0 false 0 0 0)) := fun o => World.cell?_alloc_at _ _ _ _ rfl
  have HF2 : Hid (∀ o, (w1.alloc (.cells (rmcC false 0 0 0 0 false false 0 false 0 false 0 false 0 false 0 false 0 0 0) 38)).frozen? ⟨w1.heap.size, o, none⟩ = false) := fun o => by rw [frozen?_alloc_cells]; exact frozen_past _ _ _ (Nat.le_refl _)
  have HB2 : Hid (Below w.heap.size w (w1.alloc (.cells (rmcC false 0 0 0 0 false false 0 false 0 false 0 false 0 false 0 false 0 0 0) 38))) := bthen HB1.out (below_new _ _)
  have HZ2 : Hid (w1.heap.size < (w1.alloc (.cells (rmcC false 0 0 0 0 false false 0 false 0 false 0 false 0 false 0 false 0 0 0) 38)).heap.size ∧ w.heap.size ≤ w1.heap.size) := ⟨by simp, HB1.out.size⟩
  generalize hW2 : w1.alloc (.cells (rmcC false 0 0 0 0 false false 0 false 0 false 0 false 0 false 0 false 0 0 0) 38) = W2 at *
  clear hW2
  refine wpList_store_mid rfl _ _ _ rfl w1.heap.size 0 (rmcC false 0 0 0 0 false false 0 false 0 false 0 false 0 false 0 false 0 0 0) rfl rfl (there_of HA2.out HF2.out rfl) rmc_size (by simp [Value.oneCell']) ?_
  have hY : (World.setCells W2 w1.heap.size 0 (rmcC false 0 0 0 0 false false 0 false 0 false 0 false 0 false 0 false 0 0 0).toList).rangeAt w1.heap.size 0 (rmcC false 0 0 0 0 false false 0 false 0 false 0 false 0 false 0 false 0 0 0).toList := World.rangeAt_setCells_same W2 w1.heap.size 0 (rmcC false 0 0 0 0 false false 0 false 0 false 0 false 0 false 0 false 0 0 0).toList (there_of HA2.out HF2.out rfl)
  have hBY := below_cells HZ2.out.2 (rmcC false 0 0 0 0 false false 0 false 0 false 0 false 0 false 0 false 0 0 0).toList 0 W2 HB2.out
  have hBZ := below_cells (Nat.le_refl w1.heap.size) (rmcC false 0 0 0 0 false false 0 false 0 false 0 false 0 false 0 false 0 0 0).toList 0 W2 (Below.refl w1.heap.size W2)
  have HZ3 : Hid (w1.heap.size < (World.setCells W2 w1.heap.size 0 (rmcC false 0 0 0 0 false false 0 false 0 false 0 false 0 false 0 false 0 0 0).toList).heap.size) := Nat.lt_of_lt_of_le HZ2.out.1 hBZ.size
  generalize World.setCells W2 w1.heap.size 0 (rmcC false 0 0 0 0 false false 0 false 0 false 0 false 0 false 0 false 0 0 0).toList = W3 at *
  have HY := Lib.hid hY
  have HB3 := Lib.hid hBY
  clear hY hBY hBZ HA2 HF2 HB2 HZ2 HB1
  go_upto_region 2 with fail
  go_wp2_with fail
  refine (HP _).out.mono ?_
  rintro e w4 ⟨v, rfl, B, d, rfl, hA, hs1, hf, hb1⟩
  have hY4 : w4.rangeAt w1.heap.size 0 (rmcC false 0 0 0 0 false false 0 false 0 false 0 false 0 false 0 false 0 0 0).toList := fun j v hv => ((bcell hb1).1 _ _ HZ3.out).trans (HY.out j v hv)
  have HB4 := Lib.hid (bthen HB3.out hb1)
  obtain ⟨b, off, hB, -, c1⟩ := hs1 1 (by decide)
  subst hB
  have c1 : w4.cell? ⟨b, off + 1, none⟩ = some (.string ⟨#[65]⟩) := c1
  have HC1 := Lib.hid c1
  have HY4 := Lib.hid hY4
  simp only [knMP, List.length_cons, List.length_nil, Nat.reduceAdd]
  clear hs1 hA hf hb1 hY4 HB3 HY HP HZ3 c1
  go_upto_region 3 with fail
  have c1 := HC1.out
  try (apply wp_seq_k; intro K2_ HK2_)
  apply wp_region_lit
  refine wpList_load_mid rfl _ _ rfl w1.heap.size 0 rfl [.bool false, .int .i64 0, .int .i64 0, .int .i64 0, .int .i64 0, .bool false, .bool false, .int .i64 0, .bool false, .int .i64 0, .bool false, .int .i64 0, .bool false, .int .i64 0, .bool false, .int .i64 0, .bool false, .int .i64 0, .int .i64 0, .int .i64 0] _ HY4.out Tryd.underlying38 rfl rmc_size ?_
  clear HY4
  go_wp2_with fail
  refine (num26_any _ _).mono ?_
  rintro e w' ⟨rfl, rfl⟩
  go_wp2_with fail
  refine (num26_any _ _).mono ?_
  rintro e w' ⟨rfl, rfl⟩
  go_wp2_with fail
  go_ret
  exact ⟨by rfl, HB4.out⟩

end Go.Proofs.YtfgopmfaeooadaaDoor

/- The law RmcBack, walked and joined. Printed by genrmck.py. -/
namespace Go.Proofs.YtfgopmfaeooadaaDoor
set_option linter.unusedVariables false
open Go.RowKit

theorem datT_size (c : Dat) : (datT c).1.size ≤ 100 := by
  unfold datT
  split
  · exact Nat.zero_le _
  split
  · exact Nat.zero_le _
  · show (toB _).size ≤ 100
    rw [size_B]
    simp only [List.length_append, twoL, List.length_cons, List.length_nil]
    omega
theorem wrDat_small {c : Dat} {s : Rd} (h : Small s.2) : Small (wrDat c s).2 := wrText_small h (datT_size c)
theorem wrSt_small {a : Bool} {s : Rd} (h : Small s.2) : Small (wrSt a s).2 := wrText_small h (by rw [stT_size]; omega)
theorem wrVar_small {v : N2} {s : Rd} (h : Small s.2) : Small (wrVar v s).2 := wrText_small (wrNum_small h) (Nat.le_trans (sideT_size v) (by omega))
theorem putRmc_small (g : RmcT) : Small (putRmc g).1 := by
  unfold putRmc
  refine wrDone_small ?_
  have h1 : Small (wrClk g.1 (0, [])).2 := wrClk_small Small.nil
  have h2 := wrSt_small (a := g.2.1) h1
  have h3 := wrAng_small (lat := true) (n := g.2.2.1) h2
  have h4 := wrAng_small (lat := false) (n := g.2.2.2.1) h3
  have h5 := wrNum_small (W := 1) (M := 4) (F := 2) (L := 0) (H := 999999) (n := g.2.2.2.2.1) h4
  have h6 := wrNum_small (W := 1) (M := 3) (F := 2) (L := 0) (H := 36000) (n := g.2.2.2.2.2.1) h5
  have h7 := wrDat_small (c := g.2.2.2.2.2.2.1) h6
  exact wrVar_small (v := g.2.2.2.2.2.2.2) h7
set_option maxRecDepth 8000 in
theorem rmcBack_many (mcb : Bool) (mch : Int) (mcm : Int) (mcs : Int) (mcc : Int) (mst : Bool) (mlb : Bool) (mln : Int) (mob : Bool) (mon : Int) (msb : Bool) (msn : Int) (mkb : Bool) (mkn : Int) (mvb : Bool) (mvn : Int) (mdb : Bool) (mdd : Int) (mdm : Int) (mdy : Int) (A : Option Addr) (n c : Nat) (w : World) (HF : ∀ W, Below w.heap.size w W → Hid (Calls Tryd.prog 5 #[.slice A n c] W fun e w' => e = .returned (.bool false) ∧ w' = W)) :
    Calls Tryd.prog 4 #[rmcV mcb mch mcm mcs mcc mst mlb mln mob mon msb msn mkb mkn mvb mvn mdb mdd mdm mdy, .slice A n c] w fun e w' => e = .returned (.bool true) ∧ Below w.heap.size w w' := by
  have HK := fun W => Lib.hid (knows26_any W)
  have HF1 := HF _ (below_new w (.cells (rmcC mcb mch mcm mcs mcc mst mlb mln mob mon msb msn mkb mkn mvb mvn mdb mdd mdm mdy) 38))
  go_enter Tryd.func4, Tryd.ntmps4
  go_wp2_with fail
  refine (HF1.out).mono ?_
  rintro e w' ⟨rfl, rfl⟩
  go_wp2_with fail
  refine ((HK _).out).mono ?_
  rintro e w1 ⟨rfl, hb1⟩
  go_wp2_with fail
  go_ret
  exact ⟨rfl, bthen (below_new _ _) hb1⟩
set_option maxRecDepth 8000 in
set_option maxHeartbeats 8000000 in
theorem rmcBack_few (mcb : Bool) (mch : Int) (mcm : Int) (mcs : Int) (mcc : Int) (mst : Bool) (mlb : Bool) (mln : Int) (mob : Bool) (mon : Int) (msb : Bool) (msn : Int) (mkb : Bool) (mkn : Int) (mvb : Bool) (mvn : Int) (mdb : Bool) (mdd : Int) (mdm : Int) (mdy : Int) (xcb : Bool) (xch : Int) (xcm : Int) (xcs : Int) (xcc : Int) (xst : Bool) (xlb : Bool) (xln : Int) (xob : Bool) (xon : Int) (xsb : Bool) (xsn : Int) (xkb : Bool) (xkn : Int) (xvb : Bool) (xvn : Int) (xdb : Bool) (xdd : Int) (xdm : Int) (xdy : Int) (F : Int) (A : Option Addr) (n c : Nat) (R fa fb : List ByteArray) (E : Int) (w : World) (hn : Hid (R.length = n)) (hs : Hid (Strs w w.heap.size A R)) (hRz : Hid (∀ f ∈ R, f.size ≤ 100)) (hn40 : n ≤ 40)
    (HF : ∀ W, Below w.heap.size w W → Hid (Calls Tryd.prog 5 #[.slice A n c] W fun e w' => e = .returned (.bool true) ∧ w' = W))
    (HP : ∀ W, Hid (Calls Tryd.prog 11 #[rmcV mcb mch mcm mcs mcc mst mlb mln mob mon msb msn mkb mkn mvb mvn mdb mdd mdm mdy] W (PutPost (fa, E) W)))
    (HE0 : Hid (E ≠ 0 → fa.length = 0))
    (HT1 : Hid (E = 0 → ∀ B d W, (B = none → d = 0) → Strs W W.heap.size B fa → Calls Tryd.prog 13 #[.slice B fa.length d] W fun r w' => r = .returned (.tuple #[rmcV mcb mch mcm mcs mcc mst mlb mln mob mon msb msn mkb mkn mvb mvn mdb mdd mdm mdy, .int .i64 0]) ∧ Below W.heap.size W w'))
    (HT2 : ∀ W, Below w.heap.size w W → Hid (Calls Tryd.prog 13 #[.slice A n c] W fun r w' => r = .returned (.tuple #[rmcV xcb xch xcm xcs xcc xst xlb xln xob xon xsb xsn xkb xkn xvb xvn xdb xdd xdm xdy, .int .i64 F]) ∧ Below W.heap.size W w'))
    (HX0 : Hid (F ≠ 0 → xcb = false ∧ xch = 0 ∧ xcm = 0 ∧ xcs = 0 ∧ xcc = 0 ∧ xst = false ∧ xlb = false ∧ xln = 0 ∧ xob = false ∧ xon = 0 ∧ xsb = false ∧ xsn = 0 ∧ xkb = false ∧ xkn = 0 ∧ xdb = false ∧ xdd = 0 ∧ xdm = 0 ∧ xdy = 0 ∧ xvb = false ∧ xvn = 0))
    (HX1 : Hid (F = 0 → (∀ W, Calls Tryd.prog 11 #[rmcV xcb xch xcm xcs xcc xst xlb xln xob xon xsb xsn xkb xkn xvb xvn xdb xdd xdm xdy] W (PutPost (fb, 0) W)) ∧ (∀ B d W, (B = none → d = 0) → Strs W W.heap.size B fb → Calls Tryd.prog 13 #[.slice B 11 d] W fun r w' => r = .returned (.tuple #[rmcV xcb xch xcm xcs xcc xst xlb xln xob xon xsb xsn xkb xkn xvb xvn xdb xdd xdm xdy, .int .i64 0]) ∧ Below W.heap.size W w') ∧ fb.length = 11 ∧ 11 ≤ n ∧ Small fb ∧ NoLonger fb R)) :
    Calls Tryd.prog 4 #[rmcV mcb mch mcm mcs mcc mst mlb mln mob mon msb msn mkb mkn mvb mvn mdb mdd mdm mdy, .slice A n c] w fun e w' => e = .returned (.bool true) ∧ Below w.heap.size w w' := by
  have HK := fun W => Lib.hid (knows26_any W)
  have HB0 := Lib.hid (below_new w (.cells (rmcC mcb mch mcm mcs mcc mst mlb mln mob mon msb msn mkb mkn mvb mvn mdb mdd mdm mdy) 38))
  have HC0 : Hid ((w.alloc (.cells (rmcC mcb mch mcm mcs mcc mst mlb mln mob mon msb msn mkb mkn mvb mvn mdb mdd mdm mdy) 38)).rangeAt w.heap.size 0 (rmcC mcb mch mcm mcs mcc mst mlb mln mob mon msb msn mkb mkn mvb mvn mdb mdd mdm mdy).toList) := range_of (C := rmcC mcb mch mcm mcs mcc mst mlb mln mob mon msb msn mkb mkn mvb mvn mdb mdd mdm mdy) (fun o => World.cell?_alloc_at _ _ _ _ rfl)
  have HZ0 : Hid (w.heap.size < (w.alloc (.cells (rmcC mcb mch mcm mcs mcc mst mlb mln mob mon msb msn mkb mkn mvb mvn mdb mdd mdm mdy) 38)).heap.size) := by show _ < _; simp
  go_enter Tryd.func4, Tryd.ntmps4
  go_wp2_with fail
  refine ((HF _ HB0.out).out).mono ?_
  rintro e w' ⟨rfl, rfl⟩
  go_wp2_with fail
  refine ((HK _).out).mono ?_
  rintro e w1 ⟨rfl, hb1⟩
  have HB1 := Lib.hid (bthen HB0.out hb1)
  have HC1 := Lib.hid (range_keep HC0.out HZ0.out hb1)
  have HZ1 : Hid (w.heap.size < w1.heap.size) := Nat.lt_of_lt_of_le HZ0.out hb1.size
  clear hb1 HB0 HC0 HZ0
  go_upto_region 3 with fail
  try (apply wp_seq_k; intro K_ HK_)
  apply wp_region_lit
  refine wpList_load_mid rfl _ _ rfl w.heap.size 0 rfl [.bool mcb, .int .i64 mch, .int .i64 mcm, .int .i64 mcs, .int .i64 mcc, .bool mst, .bool mlb, .int .i64 mln, .bool mob, .int .i64 mon, .bool msb, .int .i64 msn, .bool mkb, .int .i64 mkn, .bool mvb, .int .i64 mvn, .bool mdb, .int .i64 mdd, .int .i64 mdm, .int .i64 mdy] _ HC1.out Tryd.underlying38 rfl rmc_size ?_
  go_wp2_with fail
  refine ((HP _).out).mono ?_
  rintro e w2 ⟨v, rfl, A2, c2, rfl, hA2, hs2, -, hb2⟩
  have HB2 := Lib.hid (bthen HB1.out hb2)
  have HC2 := Lib.hid (range_keep HC1.out HZ1.out hb2)
  have HZ2 : Hid (w.heap.size < w2.heap.size) := Nat.lt_of_lt_of_le HZ1.out hb2.size
  have HS2 := Lib.hid hs2
  have HA2 := Lib.hid hA2
  clear hb2 hs2 hA2 HB1 HC1 HZ1 HP HF
  try dsimp only
  repeat (fail_if_success (show Code.wp _ (Code.seq (Code.region 4 _ _) _) _ _ _)
          first | go_values | go_skip | go_guarded | go_step | go_upon | go_back | (simp only [Int.not_lt, Int.not_le] at *; go_simp) | (go_ite <;> go_prune <;> (try go_simp)))
  go_cut [] (fun wx => Hid (Below w.heap.size w wx))
  case first =>
    go_wp2_with fail
    refine (num26_any _ _).mono ?_
    rintro e w' ⟨rfl, rfl⟩
    by_cases hE : E = 0
    · subst hE
      have HT := Lib.hid (HT1.out rfl A2 c2 w2 HA2.out HS2.out)
      clear HT1 HX1 HX0 HE0 HT2
      go_wp2_with fail
      refine (HT.out).mono ?_
      rintro e w3 ⟨rfl, hb3⟩
      have HB3 := Lib.hid (bthen HB2.out hb3)
      have HC3 := Lib.hid (range_keep HC2.out HZ2.out hb3)
      have HZ3 : Hid (w.heap.size < w3.heap.size) := Nat.lt_of_lt_of_le HZ2.out hb3.size
      clear hb3 HC2 HZ2 HB2
      dsimp only
      iterate 13 (first | go_step | go_values)
      have HA4 : Hid (AtC (w3.alloc (.cells #[.bool false, .int .i64 0, .int .i64 0, .int .i64 0, .int .i64 0, .bool false, .bool false, .int .i64 0, .bool false, .int .i64 0, .bool false, .int .i64 0, .bool false, .int .i64 0, .bool false, .int .i64 0, .bool false, .int .i64 0, .int .i64 0, .int .i64 0] 38)) w3.heap.size #[.bool false, .int .i64 0, .int .i64 0, .int .i64 0, .int .i64 0, .bool false, .bool false, .int .i64 0, .bool false, .int .i64 0, .bool false, .int .i64 0, .bool false, .int .i64 0, .bool false, .int .i64 0, .bool false, .int .i64 0, .int .i64 0, .int .i64 0]) := fun o => World.cell?_alloc_at _ _ _ _ rfl
      have HF4 : Hid (∀ o, (w3.alloc (.cells #[.bool false, .int .i64 0, .int .i64 0, .int .i64 0, .int .i64 0, .bool false, .bool false, .int .i64 0, .bool false, .int .i64 0, .bool false, .int .i64 0, .bool false, .int .i64 0, .bool false, .int .i64 0, .bool false, .int .i64 0, .int .i64 0, .int .i64 0] 38)).frozen? ⟨w3.heap.size, o, none⟩ = false) := fun o => by rw [frozen?_alloc_cells]; exact frozen_past _ _ _ (Nat.le_refl _)
      have HL4 : Hid (Below w3.heap.size w3 (w3.alloc (.cells #[.bool false, .int .i64 0, .int .i64 0, .int .i64 0, .int .i64 0, .bool false, .bool false, .int .i64 0, .bool false, .int .i64 0, .bool false, .int .i64 0, .bool false, .int .i64 0, .bool false, .int .i64 0, .bool false, .int .i64 0, .int .i64 0, .int .i64 0] 38))) := below_new _ _
      generalize hW4 : w3.alloc (.cells #[.bool false, .int .i64 0, .int .i64 0, .int .i64 0, .int .i64 0, .bool false, .bool false, .int .i64 0, .bool false, .int .i64 0, .bool false, .int .i64 0, .bool false, .int .i64 0, .bool false, .int .i64 0, .bool false, .int .i64 0, .int .i64 0, .int .i64 0] 38) = W4 at *
      clear hW4
      refine wpList_store_mid rfl _ _ _ rfl w3.heap.size 0 (rmcC mcb mch mcm mcs mcc mst mlb mln mob mon msb msn mkb mkn mvb mvn mdb mdd mdm mdy) rfl rfl (there_of HA4.out HF4.out rfl) rmc_size (by simp [Value.oneCell']) ?_
      have hY := World.rangeAt_setCells_same W4 w3.heap.size 0 (rmcC mcb mch mcm mcs mcc mst mlb mln mob mon msb msn mkb mkn mvb mvn mdb mdd mdm mdy).toList (there_of HA4.out HF4.out rfl)
      have hL5 := below_cells (Nat.le_refl w3.heap.size) (rmcC mcb mch mcm mcs mcc mst mlb mln mob mon msb msn mkb mkn mvb mvn mdb mdd mdm mdy).toList 0 W4 HL4.out
      generalize World.setCells W4 w3.heap.size 0 (rmcC mcb mch mcm mcs mcc mst mlb mln mob mon msb msn mkb mkn mvb mvn mdb mdd mdm mdy).toList = W5 at *
      have HY := Lib.hid hY
      have HM5 := Lib.hid (range_keep HC3.out HZ3.out hL5)
      have HB5 := Lib.hid (bthen HB3.out hL5)
      clear hY hL5 HA4 HF4 HL4 HC3 HZ3 HB3
      go_upto_region 6 with fail
      try (apply wp_seq_k; intro K2_ HK2_)
      apply wp_region_lit
      refine wpList_load_mid rfl _ _ rfl w3.heap.size 0 rfl [.bool mcb, .int .i64 mch, .int .i64 mcm, .int .i64 mcs, .int .i64 mcc, .bool mst, .bool mlb, .int .i64 mln, .bool mob, .int .i64 mon, .bool msb, .int .i64 msn, .bool mkb, .int .i64 mkn, .bool mvb, .int .i64 mvn, .bool mdb, .int .i64 mdd, .int .i64 mdm, .int .i64 mdy] _ HY.out Tryd.underlying38 rfl rmc_size ?_
      refine wpList_load_mid rfl _ _ rfl w.heap.size 0 rfl [.bool mcb, .int .i64 mch, .int .i64 mcm, .int .i64 mcs, .int .i64 mcc, .bool mst, .bool mlb, .int .i64 mln, .bool mob, .int .i64 mon, .bool msb, .int .i64 msn, .bool mkb, .int .i64 mkn, .bool mvb, .int .i64 mvn, .bool mdb, .int .i64 mdd, .int .i64 mdm, .int .i64 mdy] _ HM5.out Tryd.underlying38 rfl rmc_size ?_
      clear HY HM5
      go_wp2_with fail
      refine (num26_any _ _).mono ?_
      rintro e w' ⟨rfl, rfl⟩
      go_wp2_with fail
      go_meet
      exact HB5
    · have hne : (E == 0) = false := by rw [beq_eq_false_iff_ne]; exact hE
      go_wp2_with fail
      go_meet
      exact HB2
  case rest =>
  have HB3 := hcut
  clear HT1 HC2 HZ2 HS2 HA2 HB2
  go_wp2_with fail
  refine ((HT2 _ HB3.out).out).mono ?_
  rintro e w4 ⟨rfl, hb4⟩
  have HB4 := Lib.hid (bthen HB3.out hb4)
  clear hb4 HB3 hcut HT2
  dsimp only
  iterate 13 (first | go_step | go_values)
  have HA : Hid (AtC (w4.alloc (.cells #[.bool false, .int .i64 0, .int .i64 0, .int .i64 0, .int .i64 0, .bool false, .bool false, .int .i64 0, .bool false, .int .i64 0, .bool false, .int .i64 0, .bool false, .int .i64 0, .bool false, .int .i64 0, .bool false, .int .i64 0, .int .i64 0, .int .i64 0] 38)) w4.heap.size #[.bool false, .int .i64 0, .int .i64 0, .int .i64 0, .int .i64 0, .bool false, .bool false, .int .i64 0, .bool false, .int .i64 0, .bool false, .int .i64 0, .bool false, .int .i64 0, .bool false, .int .i64 0, .bool false, .int .i64 0, .int .i64 0, .int .i64 0]) := fun o => World.cell?_alloc_at _ _ _ _ rfl
  have HFZ : Hid (∀ o, (w4.alloc (.cells #[.bool false, .int .i64 0, .int .i64 0, .int .i64 0, .int .i64 0, .bool false, .bool false, .int .i64 0, .bool false, .int .i64 0, .bool false, .int .i64 0, .bool false, .int .i64 0, .bool false, .int .i64 0, .bool false, .int .i64 0, .int .i64 0, .int .i64 0] 38)).frozen? ⟨w4.heap.size, o, none⟩ = false) := fun o => by rw [frozen?_alloc_cells]; exact frozen_past _ _ _ (Nat.le_refl _)
  have HL : Hid (Below w4.heap.size w4 (w4.alloc (.cells #[.bool false, .int .i64 0, .int .i64 0, .int .i64 0, .int .i64 0, .bool false, .bool false, .int .i64 0, .bool false, .int .i64 0, .bool false, .int .i64 0, .bool false, .int .i64 0, .bool false, .int .i64 0, .bool false, .int .i64 0, .int .i64 0, .int .i64 0] 38)) ∧ w4.heap.size < (w4.alloc (.cells #[.bool false, .int .i64 0, .int .i64 0, .int .i64 0, .int .i64 0, .bool false, .bool false, .int .i64 0, .bool false, .int .i64 0, .bool false, .int .i64 0, .bool false, .int .i64 0, .bool false, .int .i64 0, .bool false, .int .i64 0, .int .i64 0, .int .i64 0] 38)).heap.size) := ⟨below_new _ _, by simp⟩
  generalize hW : w4.alloc (.cells #[.bool false, .int .i64 0, .int .i64 0, .int .i64 0, .int .i64 0, .bool false, .bool false, .int .i64 0, .bool false, .int .i64 0, .bool false, .int .i64 0, .bool false, .int .i64 0, .bool false, .int .i64 0, .bool false, .int .i64 0, .int .i64 0, .int .i64 0] 38) = W4 at *
  clear hW
  refine wpList_store_mid rfl _ _ _ rfl w4.heap.size 0 (rmcC xcb xch xcm xcs xcc xst xlb xln xob xon xsb xsn xkb xkn xvb xvn xdb xdd xdm xdy) rfl rfl (there_of HA.out HFZ.out rfl) rmc_size (by simp [Value.oneCell']) ?_
  have hY := World.rangeAt_setCells_same W4 w4.heap.size 0 (rmcC xcb xch xcm xcs xcc xst xlb xln xob xon xsb xsn xkb xkn xvb xvn xdb xdd xdm xdy).toList (there_of HA.out HFZ.out rfl)
  have hL5 := below_cells (Nat.le_refl w4.heap.size) (rmcC xcb xch xcm xcs xcc xst xlb xln xob xon xsb xsn xkb xkn xvb xvn xdb xdd xdm xdy).toList 0 W4 HL.out.1
  have hz5 : w4.heap.size < (World.setCells W4 w4.heap.size 0 (rmcC xcb xch xcm xcs xcc xst xlb xln xob xon xsb xsn xkb xkn xvb xvn xdb xdd xdm xdy).toList).heap.size := Nat.lt_of_lt_of_le HL.out.2 (below_cells (Nat.le_refl w4.heap.size) (rmcC xcb xch xcm xcs xcc xst xlb xln xob xon xsb xsn xkb xkn xvb xvn xdb xdd xdm xdy).toList 0 W4 (Below.refl _ _)).size
  generalize World.setCells W4 w4.heap.size 0 (rmcC xcb xch xcm xcs xcc xst xlb xln xob xon xsb xsn xkb xkn xvb xvn xdb xdd xdm xdy).toList = W5 at *
  have HY := Lib.hid hY
  have HB5 := Lib.hid (bthen HB4.out hL5)
  clear hY
  have HZ5 := Lib.hid hz5
  clear hL5 hz5 HA HFZ HL HB4
  go_wp2_with fail
  refine (num26_any _ _).mono ?_
  rintro e w' ⟨rfl, rfl⟩
  by_cases hF : F = 0
  · subst hF
    obtain ⟨hp, ht, h14, hn14, hsm, hnl⟩ := HX1.out rfl
    have hn11 : (11 : Int) ≤ (n : Int) := by omega
    have HP5 := fun W => Lib.hid (hp W)
    have HT5 := Lib.hid ht
    have HSM := Lib.hid hsm
    have HNL := Lib.hid hnl
    have HN14 := Lib.hid h14
    clear hp ht hsm hnl h14 HX1 HX0 HE0
    go_upto_region 11 with fail
    try (apply wp_seq_k; intro K3_ HK3_)
    apply wp_region_lit
    refine wpList_load_mid rfl _ _ rfl w4.heap.size 0 rfl [.bool xcb, .int .i64 xch, .int .i64 xcm, .int .i64 xcs, .int .i64 xcc, .bool xst, .bool xlb, .int .i64 xln, .bool xob, .int .i64 xon, .bool xsb, .int .i64 xsn, .bool xkb, .int .i64 xkn, .bool xvb, .int .i64 xvn, .bool xdb, .int .i64 xdd, .int .i64 xdm, .int .i64 xdy] _ HY.out Tryd.underlying38 rfl rmc_size ?_
    go_wp2_with fail
    refine ((HP5 _).out).mono ?_
    rintro e w6 ⟨v, rfl, A5, c5, rfl, hA5, hs5, -, hb6⟩
    have HB6 := Lib.hid (bthen HB5.out hb6)
    have HY6 := Lib.hid (range_keep HY.out HZ5.out hb6)
    have HZ6 : Hid (w4.heap.size < w6.heap.size) := Nat.lt_of_lt_of_le HZ5.out hb6.size
    have HS6 := Lib.hid hs5
    have HT6 := Lib.hid (HT5.out A5 c5 w6 hA5 hs5)
    rw [HN14.out]
    clear hs5 hA5 hb6 HT5 HP5 HY HZ5 HB5
    go_wp2_with fail
    refine (HT6.out).mono ?_
    rintro e w7 ⟨rfl, hb7⟩
    have HB7 := Lib.hid (bthen HB6.out hb7)
    dsimp only
    iterate 13 (first | go_step | go_values)
    have HYO := HY6
    have HA : Hid (AtC (w7.alloc (.cells #[.bool false, .int .i64 0, .int .i64 0, .int .i64 0, .int .i64 0, .bool false, .bool false, .int .i64 0, .bool false, .int .i64 0, .bool false, .int .i64 0, .bool false, .int .i64 0, .bool false, .int .i64 0, .bool false, .int .i64 0, .int .i64 0, .int .i64 0] 38)) w7.heap.size #[.bool false, .int .i64 0, .int .i64 0, .int .i64 0, .int .i64 0, .bool false, .bool false, .int .i64 0, .bool false, .int .i64 0, .bool false, .int .i64 0, .bool false, .int .i64 0, .bool false, .int .i64 0, .bool false, .int .i64 0, .int .i64 0, .int .i64 0]) := fun o => World.cell?_alloc_at _ _ _ _ rfl
    have HFZ : Hid (∀ o, (w7.alloc (.cells #[.bool false, .int .i64 0, .int .i64 0, .int .i64 0, .int .i64 0, .bool false, .bool false, .int .i64 0, .bool false, .int .i64 0, .bool false, .int .i64 0, .bool false, .int .i64 0, .bool false, .int .i64 0, .bool false, .int .i64 0, .int .i64 0, .int .i64 0] 38)).frozen? ⟨w7.heap.size, o, none⟩ = false) := fun o => by rw [frozen?_alloc_cells]; exact frozen_past _ _ _ (Nat.le_refl _)
    have HL : Hid (Below w7.heap.size w7 (w7.alloc (.cells #[.bool false, .int .i64 0, .int .i64 0, .int .i64 0, .int .i64 0, .bool false, .bool false, .int .i64 0, .bool false, .int .i64 0, .bool false, .int .i64 0, .bool false, .int .i64 0, .bool false, .int .i64 0, .bool false, .int .i64 0, .int .i64 0, .int .i64 0] 38)) ∧ w7.heap.size < (w7.alloc (.cells #[.bool false, .int .i64 0, .int .i64 0, .int .i64 0, .int .i64 0, .bool false, .bool false, .int .i64 0, .bool false, .int .i64 0, .bool false, .int .i64 0, .bool false, .int .i64 0, .bool false, .int .i64 0, .bool false, .int .i64 0, .int .i64 0, .int .i64 0] 38)).heap.size) := ⟨below_new _ _, by simp⟩
    generalize hW : w7.alloc (.cells #[.bool false, .int .i64 0, .int .i64 0, .int .i64 0, .int .i64 0, .bool false, .bool false, .int .i64 0, .bool false, .int .i64 0, .bool false, .int .i64 0, .bool false, .int .i64 0, .bool false, .int .i64 0, .bool false, .int .i64 0, .int .i64 0, .int .i64 0] 38) = W8 at *
    clear hW
    refine wpList_store_mid rfl _ _ _ rfl w7.heap.size 0 (rmcC xcb xch xcm xcs xcc xst xlb xln xob xon xsb xsn xkb xkn xvb xvn xdb xdd xdm xdy) rfl rfl (there_of HA.out HFZ.out rfl) rmc_size (by simp [Value.oneCell']) ?_
    have hY := World.rangeAt_setCells_same W8 w7.heap.size 0 (rmcC xcb xch xcm xcs xcc xst xlb xln xob xon xsb xsn xkb xkn xvb xvn xdb xdd xdm xdy).toList (there_of HA.out HFZ.out rfl)
    have hL5 := below_cells (Nat.le_refl w7.heap.size) (rmcC xcb xch xcm xcs xcc xst xlb xln xob xon xsb xsn xkb xkn xvb xvn xdb xdd xdm xdy).toList 0 W8 HL.out.1
    have hz5 : w7.heap.size < (World.setCells W8 w7.heap.size 0 (rmcC xcb xch xcm xcs xcc xst xlb xln xob xon xsb xsn xkb xkn xvb xvn xdb xdd xdm xdy).toList).heap.size := Nat.lt_of_lt_of_le HL.out.2 (below_cells (Nat.le_refl w7.heap.size) (rmcC xcb xch xcm xcs xcc xst xlb xln xob xon xsb xsn xkb xkn xvb xvn xdb xdd xdm xdy).toList 0 W8 (Below.refl _ _)).size
    generalize World.setCells W8 w7.heap.size 0 (rmcC xcb xch xcm xcs xcc xst xlb xln xob xon xsb xsn xkb xkn xvb xvn xdb xdd xdm xdy).toList = W9 at *
    have HY := Lib.hid hY
    have HB9 := Lib.hid (bthen HB7.out hL5)
    clear hY
    have h69 : Below w6.heap.size w6 W9 := bthen hb7 hL5
    have HY9 := Lib.hid (range_keep HYO.out HZ6.out h69)
    have HS9 : Hid (Strs W9 W9.heap.size A5 fb) := (HS6.out.below h69 (Nat.le_refl _)).more h69.size
    have HR9 : Hid (Strs W9 W9.heap.size A R) := (hs.out.below HB9.out (Nat.le_refl _)).more HB9.out.size
    clear hL5 hz5 HA HFZ HL HB7 h69 HYO HY6 HS6 hb7 HB6
    go_wp2_with fail
    refine (num26_any _ _).mono ?_
    rintro e w' ⟨rfl, rfl⟩
    go_wp2_with fail
    refine (num26_any _ _).mono ?_
    rintro e w' ⟨rfl, rfl⟩
    dsimp only
    iterate 11 (first | go_values | go_skip | go_guarded | go_step | go_upon)
    refine wp_load_mid _ _ rfl w4.heap.size 0 rfl [.bool xcb, .int .i64 xch, .int .i64 xcm, .int .i64 xcs, .int .i64 xcc, .bool xst, .bool xlb, .int .i64 xln, .bool xob, .int .i64 xon, .bool xsb, .int .i64 xsn, .bool xkb, .int .i64 xkn, .bool xvb, .int .i64 xvn, .bool xdb, .int .i64 xdd, .int .i64 xdm, .int .i64 xdy] _ HY9.out Tryd.underlying38 rfl rmc_size ?_
    go_step
    go_simp
    go_guarded
    refine wp_load_mid _ _ rfl w7.heap.size 0 rfl [.bool xcb, .int .i64 xch, .int .i64 xcm, .int .i64 xcs, .int .i64 xcc, .bool xst, .bool xlb, .int .i64 xln, .bool xob, .int .i64 xon, .bool xsb, .int .i64 xsn, .bool xkb, .int .i64 xkn, .bool xvb, .int .i64 xvn, .bool xdb, .int .i64 xdd, .int .i64 xdm, .int .i64 xdy] _ HY.out Tryd.underlying38 rfl rmc_size ?_
    clear HY HY9
    go_wp2_with fail
    go_loopw [15] (fun i wr => ∃ k nq : Nat, k ≤ 11 ∧ i = .int .i64 k ∧ wr = W9.drewN nq) (fun i _ => 11 - (intOf i).toNat)
    case atStart => exact ⟨0, 0, Nat.zero_le _, rfl, rfl⟩
    case round =>
      obtain ⟨k, nq, hk, rfl, rfl⟩ := hrel
      by_cases hlt : k < 11
      · have hkb : k < fb.length := by rw [HN14.out]; exact hlt
        have i3 : (k : Int) < (n : Int) := by omega
        have hkr : k < R.length := by rw [hn.out]; omega
        obtain ⟨a1, o1, hA1, hb1, hc1⟩ := HS9.out k hkb
        obtain ⟨a2, o2, hA2, hb2, hc2⟩ := HR9.out k hkr
        subst hA1 hA2
        have i1 : (0 : Int) ≤ (k : Int) := Int.natCast_nonneg _
        have i2 : (k : Int) < 11 := by omega
        have hle : (fb[k].size : Int) ≤ (R[k].size : Int) := by
          have := HNL.out k fb[k] R[k] (List.getElem?_eq_getElem hkb) (List.getElem?_eq_getElem hkr)
          omega
        have z1 : fb[k].size ≤ 100 := HSM.out _ (List.getElem_mem _)
        have z2 : R[k].size ≤ 100 := hRz.out _ (List.getElem_mem _)
        generalize fb[k] = f at *
        generalize R[k] = g at *
        clear hkb hkr
        go_wp2_with fail
        go_quiet (fail)
        go_wp2_with fail
        go_roundw
        case rel => exact ⟨k + 1, _, by omega, by go_num, rfl⟩
        case measure => simp [intOf]; omega
      · obtain rfl : k = 11 := by omega
        go_wp2_with fail
        go_ret
        exact ⟨rfl, bdrewN HB9.out _⟩
  · have hne : (F != 0) = true := by rw [bne_iff_ne]; exact hF
    have HE2 := HE0
    obtain ⟨rfl, rfl, rfl, rfl, rfl, rfl, rfl, rfl, rfl, rfl, rfl, rfl, rfl, rfl, rfl, rfl, rfl, rfl, rfl, rfl⟩ := HX0.out hF
    clear HX1 HX0
    obtain ⟨q, hq⟩ : ∃ q, fa.length = q := ⟨_, rfl⟩
    rw [hq] at HE2 ⊢
    clear hq HE0
    go_upto_region 10 with fail
    try (apply wp_seq_k; intro K3_ HK3_)
    apply wp_region_lit
    refine wpList_load_mid rfl _ _ rfl w4.heap.size 0 rfl [.bool false, .int .i64 0, .int .i64 0, .int .i64 0, .int .i64 0, .bool false, .bool false, .int .i64 0, .bool false, .int .i64 0, .bool false, .int .i64 0, .bool false, .int .i64 0, .bool false, .int .i64 0, .bool false, .int .i64 0, .int .i64 0, .int .i64 0] _ HY.out Tryd.underlying38 rfl rmc_size ?_
    clear HY
    by_cases hE : E = 0
    · subst hE
      go_wp2_with fail
      refine (num26_any _ _).mono ?_
      rintro e w' ⟨rfl, rfl⟩
      go_wp2_with fail
      go_ret
      exact ⟨by rfl, HB5.out⟩
    · have hne2 : (E == 0) = false := by rw [beq_eq_false_iff_ne]; exact hE
      have hq0 := HE2.out hE
      subst hq0
      go_wp2_with fail
      refine (num26_any _ _).mono ?_
      rintro e w' ⟨rfl, rfl⟩
      go_wp2_with fail
      go_ret
      exact ⟨by rfl, HB5.out⟩
theorem rmcTaken_any {R : List ByteArray} {E : Int} (xcb : Bool) (xch : Int) (xcm : Int) (xcs : Int) (xcc : Int) (xst : Bool) (xlb : Bool) (xln : Int) (xob : Bool) (xon : Int) (xsb : Bool) (xsn : Int) (xkb : Bool) (xkn : Int) (xvb : Bool) (xvn : Int) (xdb : Bool) (xdd : Int) (xdm : Int) (xdy : Int) (ht : takeRmc R = (((xcb, xch, xcm, xcs, xcc), xst, (xlb, xln), (xob, xon), (xsb, xsn), (xkb, xkn), (xdb, xdd, xdm, xdy), (xvb, xvn)), E)) (hz : Small R) (B : Option Addr) (d : Nat) (W : World) (hB : B = none → d = 0) (hs : Strs W W.heap.size B R) :
    Calls Tryd.prog 13 #[.slice B R.length d] W fun r w' => r = .returned (.tuple #[rmcV xcb xch xcm xcs xcc xst xlb xln xob xon xsb xsn xkb xkn xvb xvn xdb xdd xdm xdy, .int .i64 E]) ∧ Below W.heap.size W w' := by
  have := rmcTake_any B R d W hB hs (fun t h => Nat.le_trans (hz t h) (by omega))
  rw [ht] at this
  exact this
theorem rmcBack_any (mcb : Bool) (mch : Int) (mcm : Int) (mcs : Int) (mcc : Int) (mst : Bool) (mlb : Bool) (mln : Int) (mob : Bool) (mon : Int) (msb : Bool) (msn : Int) (mkb : Bool) (mkn : Int) (mvb : Bool) (mvn : Int) (mdb : Bool) (mdd : Int) (mdm : Int) (mdy : Int) (A : Option Addr) (c : Nat) (fs : List ByteArray) (w : World) (hA : A = none → c = 0) (hn : fs.length ≤ maxLen) (hs : Strs w w.heap.size A fs) (hz : ∀ f ∈ fs, f.size ≤ maxLen) :
    Calls Tryd.prog 4 #[rmcV mcb mch mcm mcs mcc mst mlb mln mob mon msb msn mkb mkn mvb mvn mdb mdd mdm mdy, .slice A fs.length c] w fun e w' => e = .returned (.bool true) ∧ Below w.heap.size w w' := by
  have hst : ∀ W, Below w.heap.size w W → Strs W W.heap.size A fs := fun W hb => (hs.below hb (Nat.le_refl _)).more hb.size
  have hf : ∀ W, Below w.heap.size w W → Calls Tryd.prog 5 #[.slice A fs.length c] W fun e w' => e = .returned (.bool (fewL fs)) ∧ w' = W := fun W hb => r25Few_any A fs.length c fs W rfl (hst W hb) hz hn
  cases hfew : fewL fs with
  | false =>
    rw [hfew] at hf
    exact rmcBack_many mcb mch mcm mcs mcc mst mlb mln mob mon msb msn mkb mkn mvb mvn mdb mdd mdm mdy A fs.length c w hf
  | true =>
    rw [hfew] at hf
    obtain ⟨h40, h100⟩ := (fewL_iff fs).1 hfew
    obtain ⟨⟨⟨⟨xcb, xch, xcm, xcs, xcc⟩, xst, ⟨xlb, xln⟩, ⟨xob, xon⟩, ⟨xsb, xsn⟩, ⟨xkb, xkn⟩, ⟨xdb, xdd, xdm, xdy⟩, ⟨xvb, xvn⟩⟩, F⟩, hX⟩ : ∃ x, takeRmc fs = x := ⟨_, rfl⟩
    have hX1 : (takeRmc fs).1 = ((xcb, xch, xcm, xcs, xcc), xst, (xlb, xln), (xob, xon), (xsb, xsn), (xkb, xkn), (xdb, xdd, xdm, xdy), (xvb, xvn)) := by rw [hX]
    have hX2 : (takeRmc fs).2 = F := by rw [hX]
    refine rmcBack_few mcb mch mcm mcs mcc mst mlb mln mob mon msb msn mkb mkn mvb mvn mdb mdd mdm mdy xcb xch xcm xcs xcc xst xlb xln xob xon xsb xsn xkb xkn xvb xvn xdb xdd xdm xdy F A fs.length c fs (putRmc ((mcb, mch, mcm, mcs, mcc), mst, (mlb, mln), (mob, mon), (msb, msn), (mkb, mkn), (mdb, mdd, mdm, mdy), (mvb, mvn))).1 (putRmc ((xcb, xch, xcm, xcs, xcc), xst, (xlb, xln), (xob, xon), (xsb, xsn), (xkb, xkn), (xdb, xdd, xdm, xdy), (xvb, xvn))).1 (putRmc ((mcb, mch, mcm, mcs, mcc), mst, (mlb, mln), (mob, mon), (msb, msn), (mkb, mkn), (mdb, mdd, mdm, mdy), (mvb, mvn))).2 w rfl hs h100 h40 hf
      (fun W => rmcPut_any mcb mch mcm mcs mcc mst mlb mln mob mon msb msn mkb mkn mvb mvn mdb mdd mdm mdy W) (fun h => ?_) (fun h => ?_) (fun W hb => ?_) (fun h => ?_) (fun h => ?_)
    · have : (putRmc ((mcb, mch, mcm, mcs, mcc), mst, (mlb, mln), (mob, mon), (msb, msn), (mkb, mkn), (mdb, mdd, mdm, mdy), (mvb, mvn))).1 = [] := by unfold putRmc at h ⊢; exact wrDone_none h
      rw [this]; rfl
    · obtain ⟨h1, -⟩ := rmc_put_take h
      exact fun B d W hB hS => rmcTaken_any mcb mch mcm mcs mcc mst mlb mln mob mon msb msn mkb mkn mvb mvn mdb mdd mdm mdy h1 (putRmc_small _) B d W hB hS
    · exact rmcTaken_any xcb xch xcm xcs xcc xst xlb xln xob xon xsb xsn xkb xkn xvb xvn xdb xdd xdm xdy hX h100 A c W hA (hst W hb)
    · have h1 := takeRmc_no (R := fs) (by rw [hX2]; exact h)
      rw [hX1] at h1
      simp only [zeroM, zC, zN, zD, Prod.mk.injEq] at h1
      simpa only [and_assoc] using h1
    · obtain ⟨h1, h2, h3⟩ := rmc_take_put (R := fs) (by rw [hX2]; exact h)
      rw [hX1] at h2 h3
      obtain ⟨h4, h5⟩ := rmc_put_take h2
      refine ⟨fun W => ?_, fun B d W hB hS => ?_, h5, by omega, putRmc_small _, h3⟩
      · have := rmcPut_any xcb xch xcm xcs xcc xst xlb xln xob xon xsb xsn xkb xkn xvb xvn xdb xdd xdm xdy W
        rw [show putRmc ((xcb, xch, xcm, xcs, xcc), xst, (xlb, xln), (xob, xon), (xsb, xsn), (xkb, xkn), (xdb, xdd, xdm, xdy), (xvb, xvn)) = ((putRmc ((xcb, xch, xcm, xcs, xcc), xst, (xlb, xln), (xob, xon), (xsb, xsn), (xkb, xkn), (xdb, xdd, xdm, xdy), (xvb, xvn))).1, 0) from Prod.ext rfl h2] at this
        exact this
      · have := rmcTaken_any xcb xch xcm xcs xcc xst xlb xln xob xon xsb xsn xkb xkn xvb xvn xdb xdd xdm xdy h4 (putRmc_small _) B d W hB hS
        rw [h5] at this
        exact this
end Go.Proofs.YtfgopmfaeooadaaDoor
