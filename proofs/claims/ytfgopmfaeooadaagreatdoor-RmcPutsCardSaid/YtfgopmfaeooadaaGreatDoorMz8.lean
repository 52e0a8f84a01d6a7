/- Layer 24: a text's time. -/
import Derived.Test.YtfgopmfaeooadaaGreatDoorMz7
namespace Go.Proofs.YtfgopmfaeooadaaGreatDoor
set_option linter.unusedVariables false
open Go.RowKit

abbrev clkO (b : Bool) (h m s c : Int) : Obj := .cells #[.bool b, .int .i64 h, .int .i64 m, .int .i64 s, .int .i64 c] 26
def ClkPost (x : Clk × Int) (w : World) (e : Ending) (w' : World) : Prop :=
  e = .returned (.tuple #[clkV x.1.1 x.1.2.1 x.1.2.2.1 x.1.2.2.2.1 x.1.2.2.2.2, .int .i64 x.2]) ∧ Below w.heap.size w w'
theorem take_ext (s : ByteArray) (n : Nat) : (s.extract 0 n).data.toList = s.data.toList.take n := by
  simp
theorem drop_ext (s : ByteArray) (n : Nat) : (s.extract n s.size).data.toList = s.data.toList.drop n := by
  rw [ByteArray.data_extract, Array.toList_extract]
  rw [List.extract_eq_take_drop]
  exact List.take_of_length_le (by simp)
/-- Five cells, stored one behind the other. -/
theorem set5 {W : World} {g : Nat} {a b c d e : Value} (h : ∀ o, o < 5 → ∃ v, W.cell? ⟨g, o, none⟩ = some v) :
    ∀ o, o < 5 → (((((W.setCell ⟨g, 0, none⟩ a).setCell ⟨g, 1, none⟩ b).setCell ⟨g, 2, none⟩ c).setCell ⟨g, 3, none⟩ d).setCell ⟨g, 4, none⟩ e).cell? ⟨g, o, none⟩ = (#[a, b, c, d, e] : Array Value)[o]? := by
  have n : ∀ (i j : Nat), i ≠ j → (⟨g, i, none⟩ : Addr) ≠ ⟨g, j, none⟩ := fun i j hn q => by injection q with _ q; exact hn q
  intro o ho
  obtain ⟨v, hv⟩ := h o ho
  rcases (by omega : o = 0 ∨ o = 1 ∨ o = 2 ∨ o = 3 ∨ o = 4) with rfl | rfl | rfl | rfl | rfl
  · rw [World.cell?_setCell_other _ _ _ _ (n 4 0 (by omega)), World.cell?_setCell_other _ _ _ _ (n 3 0 (by omega)), World.cell?_setCell_other _ _ _ _ (n 2 0 (by omega)), World.cell?_setCell_other _ _ _ _ (n 1 0 (by omega)), World.cell?_setCell_same' _ _ _ (by rw [hv]; rfl)]
    rfl
  · rw [World.cell?_setCell_other _ _ _ _ (n 4 1 (by omega)), World.cell?_setCell_other _ _ _ _ (n 3 1 (by omega)), World.cell?_setCell_other _ _ _ _ (n 2 1 (by omega)), World.cell?_setCell_same' _ _ _ (by rw [World.cell?_setCell_other _ _ _ _ (n 0 1 (by omega)), hv]; rfl)]
    rfl
  · rw [World.cell?_setCell_other _ _ _ _ (n 4 2 (by omega)), World.cell?_setCell_other _ _ _ _ (n 3 2 (by omega)), World.cell?_setCell_same' _ _ _ (by rw [World.cell?_setCell_other _ _ _ _ (n 1 2 (by omega)), World.cell?_setCell_other _ _ _ _ (n 0 2 (by omega)), hv]; rfl)]
    rfl
  · rw [World.cell?_setCell_other _ _ _ _ (n 4 3 (by omega)), World.cell?_setCell_same' _ _ _ (by rw [World.cell?_setCell_other _ _ _ _ (n 2 3 (by omega)), World.cell?_setCell_other _ _ _ _ (n 1 3 (by omega)), World.cell?_setCell_other _ _ _ _ (n 0 3 (by omega)), hv]; rfl)]
    rfl
  · rw [World.cell?_setCell_same' _ _ _ (by rw [World.cell?_setCell_other _ _ _ _ (n 3 4 (by omega)), World.cell?_setCell_other _ _ _ _ (n 2 4 (by omega)), World.cell?_setCell_other _ _ _ _ (n 1 4 (by omega)), World.cell?_setCell_other _ _ _ _ (n 0 4 (by omega)), hv]; rfl)]
    rfl
theorem set5_below {B : Nat} {w0 W : World} {g : Nat} {a b c d e : Value} (h : Below B w0 W) (hg : B ≤ g) : Below B w0 (((((W.setCell ⟨g, 0, none⟩ a).setCell ⟨g, 1, none⟩ b).setCell ⟨g, 2, none⟩ c).setCell ⟨g, 3, none⟩ d).setCell ⟨g, 4, none⟩ e) :=
  ((((h.setCell hg _).setCell hg _).setCell hg _).setCell hg _).setCell hg _

theorem clkTake_none (w : World) : Calls Tryz.prog 19 #[.string ⟨#[]⟩] w (ClkPost (zC, 0) w) := by
  go_enter Tryz.func19, Tryz.ntmps19
  go_wp2_with fail
  exact bodyPost_ret (v := .tuple #[clkV false 0 0 0 0, .int .i64 0]) (by simp [results, Tryz.results19, go_sem]) rfl ⟨rfl, below_new _ _⟩
theorem clk_ways {l : List UInt8} (hl : l ≠ []) {a b c n : Int} {k1 k2 : Bool} (h1 : threeL (l.take 6) = if k1 = true then some (a, b, c) else none) (h2 : behindL (l.drop 6) = if k2 = true then some n else none) :
    takeClk l = if k1 = true ∧ k2 = true then (if clkB (true, a, b, c, n) = true then ((true, a, b, c, n), 0) else (zC, 5)) else (zC, 3) := by
  unfold takeClk
  rw [if_neg hl, h1, h2]
  cases k1 <;> cases k2 <;> rfl
set_option maxRecDepth 8000 in
set_option maxHeartbeats 4000000 in
theorem clkTake_short (s : ByteArray) (w : World) (hs : s.size ≤ 1000000) (h0 : 0 < s.size) (i6 : (s.size : Int) ≤ 6) : Calls Tryz.prog 19 #[.string s] w (ClkPost (takeClk s.data.toList) w) := by
  obtain ⟨f1, f2⟩ := nonempty_forms h0
  have HNE : Hid (s.data.toList ≠ []) := fun q => by have := size_nil q; omega
  have HR0 : Hid (∀ o, (w.alloc (clkO false 0 0 0 0)).cell? ⟨w.heap.size, o, none⟩ = (#[Value.bool false, .int .i64 0, .int .i64 0, .int .i64 0, .int .i64 0] : Array Value)[o]?) := fun o => World.cell?_alloc_at _ _ _ _ rfl
  have HF0 : Hid (∀ o, (w.alloc (clkO false 0 0 0 0)).frozen? ⟨w.heap.size, o, none⟩ = false) := fun o => by rw [frozen?_alloc_cells]; exact frozen_past _ _ _ (Nat.le_refl _)
  have HB0 := Lib.hid (below_new w (clkO false 0 0 0 0))
  have HZ0 : Hid (w.heap.size < (w.alloc (clkO false 0 0 0 0)).heap.size) := by show _ < _; simp
  go_enter Tryz.func19, Tryz.ntmps19
  go_wp2_with fail
  refine (cthree_any _ _ (by first | exact hs | (rw [ByteArray.size_extract]; omega))).mono ?_
  rintro e w1 ⟨a, b, c, k1, rfl, h1, hb1⟩
  have H1 : Hid (threeL (s.data.toList.take 6) = if k1 = true then some (a, b, c) else none) := by
    show _ = _
    rw [List.take_of_length_le (by simp; omega)]; exact h1
  have hbo := below_new w1 (.cells #[.int .i64 a, .int .i64 b, .int .i64 c] 86)
  have HR1 : Hid (∀ o, (w1.alloc (.cells #[.int .i64 a, .int .i64 b, .int .i64 c] 86)).cell? ⟨w.heap.size, o, none⟩ = (#[Value.bool false, .int .i64 0, .int .i64 0, .int .i64 0, .int .i64 0] : Array Value)[o]?) := fun o => ((bcell hbo).1 _ o (Nat.lt_of_lt_of_le HZ0.out hb1.size)).trans (((bcell hb1).1 _ o HZ0.out).trans (HR0.out o))
  have HF1 : Hid (∀ o, (w1.alloc (.cells #[.int .i64 a, .int .i64 b, .int .i64 c] 86)).frozen? ⟨w.heap.size, o, none⟩ = false) := fun o => ((bcell hbo).2 _ o (Nat.lt_of_lt_of_le HZ0.out hb1.size)).trans (((bcell hb1).2 _ o HZ0.out).trans (HF0.out o))
  have HO1 : Hid (∀ o, (w1.alloc (.cells #[.int .i64 a, .int .i64 b, .int .i64 c] 86)).cell? ⟨w1.heap.size, o, none⟩ = (#[Value.int .i64 a, .int .i64 b, .int .i64 c] : Array Value)[o]?) := fun o => World.cell?_alloc_at _ _ _ _ rfl
  have HB1 := Lib.hid (bthen (bthen HB0.out hb1) hbo)
  have HZ1 : Hid (w.heap.size < w1.heap.size ∧ w1.heap.size < (w1.alloc (.cells #[.int .i64 a, .int .i64 b, .int .i64 c] 86)).heap.size) := ⟨Nat.lt_of_lt_of_le HZ0.out hb1.size, by simp⟩
  clear h1 hbo hb1 HR0 HF0 HB0 HZ0
  go_wp2_with fail
  refine (cbehind_any _ _ (by first | (rw [ByteArray.size_extract]; omega) | decide)).mono ?_
  rintro e w2 ⟨n, k2, rfl, h2, hb2⟩
  have H2 : Hid (behindL (s.data.toList.drop 6) = if k2 = true then some n else none) := by
    show _ = _
    have hl6 : s.data.toList.length ≤ 6 := by
      have : s.data.toList.length = s.size := by simp
      omega
    rw [List.drop_of_length_le hl6]
    exact h2
  have HW := Lib.hid (clk_ways HNE.out H1.out H2.out)
  have HR2 : Hid (∀ o, w2.cell? ⟨w.heap.size, o, none⟩ = (#[Value.bool false, .int .i64 0, .int .i64 0, .int .i64 0, .int .i64 0] : Array Value)[o]?) := fun o => ((bcell hb2).1 _ o (Nat.lt_trans HZ1.out.1 HZ1.out.2)).trans (HR1.out o)
  have HF2 : Hid (∀ o, w2.frozen? ⟨w.heap.size, o, none⟩ = false) := fun o => ((bcell hb2).2 _ o (Nat.lt_trans HZ1.out.1 HZ1.out.2)).trans (HF1.out o)
  have HO2 : Hid (∀ o, w2.cell? ⟨w1.heap.size, o, none⟩ = (#[Value.int .i64 a, .int .i64 b, .int .i64 c] : Array Value)[o]?) := fun o => ((bcell hb2).1 _ o HZ1.out.2).trans (HO1.out o)
  have HB2 := Lib.hid (bthen HB1.out hb2)
  have HZ2 : Hid (w.heap.size < w2.heap.size) := Nat.lt_of_lt_of_le (Nat.lt_trans HZ1.out.1 HZ1.out.2) hb2.size
  clear h2 hb2 HR1 HF1 HB1 HO1 H1 H2 HNE HZ1
  have kk : (k1 = false ∨ k1 = true ∧ k2 = false) ∨ k1 = true ∧ k2 = true := by cases k1 <;> cases k2 <;> simp
  rcases kk with kk | ⟨rfl, rfl⟩
  · have HX : Hid (takeClk s.data.toList = (zC, 3)) := by
      have := HW.out
      rw [if_neg (by rcases kk with rfl | ⟨rfl, rfl⟩ <;> simp)] at this
      exact this
    have r0 := HR2.out 0
    have r1 := HR2.out 1
    have r2 := HR2.out 2
    have r3 := HR2.out 3
    have r4 := HR2.out 4
    have fz := HF2.out
    clear HW HO2
    rcases kk with rfl | ⟨rfl, rfl⟩
    all_goals
      go_wp2_with fail
      have hd := set5 (W := w2) (g := w.heap.size) (a := .bool false) (b := .int .i64 0) (c := .int .i64 0) (d := .int .i64 0) (e := .int .i64 0) (fun o ho => by rw [HR2.out o]; rcases (by omega : o = 0 ∨ o = 1 ∨ o = 2 ∨ o = 3 ∨ o = 4) with rfl | rfl | rfl | rfl | rfl <;> exact ⟨_, rfl⟩)
      have d0 := hd 0 (by omega)
      have d1 := hd 1 (by omega)
      have d2 := hd 2 (by omega)
      have d3 := hd 3 (by omega)
      have d4 := hd 4 (by omega)
      have hbl := set5_below (a := .bool false) (b := .int .i64 0) (c := .int .i64 0) (d := .int .i64 0) (e := .int .i64 0) HB2.out (Nat.le_refl _)
      generalize ((((w2.setCell ⟨w.heap.size, 0, none⟩ (.bool false)).setCell ⟨w.heap.size, 1, none⟩ (.int .i64 0)).setCell ⟨w.heap.size, 2, none⟩ (.int .i64 0)).setCell ⟨w.heap.size, 3, none⟩ (.int .i64 0)).setCell ⟨w.heap.size, 4, none⟩ (.int .i64 0) = w9 at *
      simp at d0 d1 d2 d3 d4
      exact bodyPost_ret (v := .tuple #[clkV false 0 0 0 0, .int .i64 3]) (by simp [results, Tryz.results19, go_sem, d0, d1, d2, d3, d4]) rfl ⟨by rw [HX.out]; rfl, hbl⟩
  · have HM := fun W => Lib.hid (cmay_any true a b c n W)
    obtain ⟨Y, hY⟩ : ∃ Y, clkB (true, a, b, c, n) = Y := ⟨_, rfl⟩
    rw [hY] at HM HW
    have o0 := HO2.out 0
    have o1 := HO2.out 1
    have o2 := HO2.out 2
    have hbc := below_new w2 (clkO true a b c n)
    have HB3 := Lib.hid (bthen HB2.out hbc)
    have HR3 : Hid (∀ o, (w2.alloc (clkO true a b c n)).cell? ⟨w.heap.size, o, none⟩ = (#[Value.bool false, .int .i64 0, .int .i64 0, .int .i64 0, .int .i64 0] : Array Value)[o]?) := fun o => ((bcell hbc).1 _ o HZ2.out).trans (HR2.out o)
    have HF3 : Hid (∀ o, (w2.alloc (clkO true a b c n)).frozen? ⟨w.heap.size, o, none⟩ = false) := fun o => ((bcell hbc).2 _ o HZ2.out).trans (HF2.out o)
    have HC3 : Hid (∀ o, (w2.alloc (clkO true a b c n)).cell? ⟨w2.heap.size, o, none⟩ = (#[Value.bool true, .int .i64 a, .int .i64 b, .int .i64 c, .int .i64 n] : Array Value)[o]?) := fun o => World.cell?_alloc_at _ _ _ _ rfl
    have HZ3 : Hid (w.heap.size < (w2.alloc (clkO true a b c n)).heap.size ∧ w2.heap.size < (w2.alloc (clkO true a b c n)).heap.size) := ⟨Nat.lt_of_lt_of_le HZ2.out hbc.size, by simp⟩
    clear hbc hY HO2
    go_wp2_with fail
    refine (HM _).out.mono ?_
    rintro e w4 ⟨rfl, hb4⟩
    have HR4 : Hid (∀ o, w4.cell? ⟨w.heap.size, o, none⟩ = (#[Value.bool false, .int .i64 0, .int .i64 0, .int .i64 0, .int .i64 0] : Array Value)[o]?) := fun o => ((bcell hb4).1 _ o HZ3.out.1).trans (HR3.out o)
    have HF4 : Hid (∀ o, w4.frozen? ⟨w.heap.size, o, none⟩ = false) := fun o => ((bcell hb4).2 _ o HZ3.out.1).trans (HF3.out o)
    have HC4 : Hid (∀ o, w4.cell? ⟨w2.heap.size, o, none⟩ = (#[Value.bool true, .int .i64 a, .int .i64 b, .int .i64 c, .int .i64 n] : Array Value)[o]?) := fun o => ((bcell hb4).1 _ o HZ3.out.2).trans (HC3.out o)
    have HB4 := Lib.hid (bthen HB3.out hb4)
    clear hb4 HR3 HF3 HC3 HB3 HR2 HF2 HB2 o0 o1 o2 HZ3
    have r0 := HR4.out 0
    have r1 := HR4.out 1
    have r2 := HR4.out 2
    have r3 := HR4.out 3
    have r4 := HR4.out 4
    have fz := HF4.out
    have c0 := HC4.out 0
    have c1 := HC4.out 1
    have c2 := HC4.out 2
    have c3 := HC4.out 3
    have c4 := HC4.out 4
    have hold : ∀ o, o < 5 → ∃ v, w4.cell? ⟨w.heap.size, o, none⟩ = some v := fun o ho => by rw [HR4.out o]; rcases (by omega : o = 0 ∨ o = 1 ∨ o = 2 ∨ o = 3 ∨ o = 4) with rfl | rfl | rfl | rfl | rfl <;> exact ⟨_, rfl⟩
    have HOLD := Lib.hid hold
    clear hold
    cases Y with
    | false =>
      have HX : Hid (takeClk s.data.toList = (zC, 5)) := HW.out
      clear HW
      go_wp2_with fail
      have hd := set5 (W := w4) (g := w.heap.size) (a := .bool false) (b := .int .i64 0) (c := .int .i64 0) (d := .int .i64 0) (e := .int .i64 0) HOLD.out
      have d0 := hd 0 (by omega)
      have d1 := hd 1 (by omega)
      have d2 := hd 2 (by omega)
      have d3 := hd 3 (by omega)
      have d4 := hd 4 (by omega)
      have hbl := set5_below (a := .bool false) (b := .int .i64 0) (c := .int .i64 0) (d := .int .i64 0) (e := .int .i64 0) HB4.out (Nat.le_refl _)
      generalize ((((w4.setCell ⟨w.heap.size, 0, none⟩ (.bool false)).setCell ⟨w.heap.size, 1, none⟩ (.int .i64 0)).setCell ⟨w.heap.size, 2, none⟩ (.int .i64 0)).setCell ⟨w.heap.size, 3, none⟩ (.int .i64 0)).setCell ⟨w.heap.size, 4, none⟩ (.int .i64 0) = w9 at *
      simp at d0 d1 d2 d3 d4
      exact bodyPost_ret (v := .tuple #[clkV false 0 0 0 0, .int .i64 5]) (by simp [results, Tryz.results19, go_sem, d0, d1, d2, d3, d4]) rfl ⟨by rw [HX.out]; rfl, hbl⟩
    | true =>
      have HX : Hid (takeClk s.data.toList = ((true, a, b, c, n), 0)) := HW.out
      clear HW
      go_wp2_with fail
      have hd := set5 (W := w4) (g := w.heap.size) (a := .bool true) (b := .int .i64 a) (c := .int .i64 b) (d := .int .i64 c) (e := .int .i64 n) HOLD.out
      have d0 := hd 0 (by omega)
      have d1 := hd 1 (by omega)
      have d2 := hd 2 (by omega)
      have d3 := hd 3 (by omega)
      have d4 := hd 4 (by omega)
      have hbl := set5_below (a := .bool true) (b := .int .i64 a) (c := .int .i64 b) (d := .int .i64 c) (e := .int .i64 n) HB4.out (Nat.le_refl _)
      generalize ((((w4.setCell ⟨w.heap.size, 0, none⟩ (.bool true)).setCell ⟨w.heap.size, 1, none⟩ (.int .i64 a)).setCell ⟨w.heap.size, 2, none⟩ (.int .i64 b)).setCell ⟨w.heap.size, 3, none⟩ (.int .i64 c)).setCell ⟨w.heap.size, 4, none⟩ (.int .i64 n) = w9 at *
      simp at d0 d1 d2 d3 d4
      exact bodyPost_ret (v := .tuple #[clkV true a b c n, .int .i64 0]) (by simp [results, Tryz.results19, go_sem, d0, d1, d2, d3, d4]) rfl ⟨by rw [HX.out], hbl⟩
set_option maxRecDepth 8000 in
set_option maxHeartbeats 4000000 in
theorem clkTake_long (s : ByteArray) (w : World) (hs : s.size ≤ 1000000) (h0 : 0 < s.size) (i6 : (6 : Int) < (s.size : Int)) : Calls Tryz.prog 19 #[.string s] w (ClkPost (takeClk s.data.toList) w) := by
  obtain ⟨f1, f2⟩ := nonempty_forms h0
  have HNE : Hid (s.data.toList ≠ []) := fun q => by have := size_nil q; omega
  have HR0 : Hid (∀ o, (w.alloc (clkO false 0 0 0 0)).cell? ⟨w.heap.size, o, none⟩ = (#[Value.bool false, .int .i64 0, .int .i64 0, .int .i64 0, .int .i64 0] : Array Value)[o]?) := fun o => World.cell?_alloc_at _ _ _ _ rfl
  have HF0 : Hid (∀ o, (w.alloc (clkO false 0 0 0 0)).frozen? ⟨w.heap.size, o, none⟩ = false) := fun o => by rw [frozen?_alloc_cells]; exact frozen_past _ _ _ (Nat.le_refl _)
  have HB0 := Lib.hid (below_new w (clkO false 0 0 0 0))
  have HZ0 : Hid (w.heap.size < (w.alloc (clkO false 0 0 0 0)).heap.size) := by show _ < _; simp
  go_enter Tryz.func19, Tryz.ntmps19
  go_wp2_with fail
  refine (cthree_any _ _ (by first | exact hs | (rw [ByteArray.size_extract]; omega))).mono ?_
  rintro e w1 ⟨a, b, c, k1, rfl, h1, hb1⟩
  have H1 : Hid (threeL (s.data.toList.take 6) = if k1 = true then some (a, b, c) else none) := by
    show _ = _
    rw [← take_ext]; exact h1
  have hbo := below_new w1 (.cells #[.int .i64 a, .int .i64 b, .int .i64 c] 86)
  have HR1 : Hid (∀ o, (w1.alloc (.cells #[.int .i64 a, .int .i64 b, .int .i64 c] 86)).cell? ⟨w.heap.size, o, none⟩ = (#[Value.bool false, .int .i64 0, .int .i64 0, .int .i64 0, .int .i64 0] : Array Value)[o]?) := fun o => ((bcell hbo).1 _ o (Nat.lt_of_lt_of_le HZ0.out hb1.size)).trans (((bcell hb1).1 _ o HZ0.out).trans (HR0.out o))
  have HF1 : Hid (∀ o, (w1.alloc (.cells #[.int .i64 a, .int .i64 b, .int .i64 c] 86)).frozen? ⟨w.heap.size, o, none⟩ = false) := fun o => ((bcell hbo).2 _ o (Nat.lt_of_lt_of_le HZ0.out hb1.size)).trans (((bcell hb1).2 _ o HZ0.out).trans (HF0.out o))
  have HO1 : Hid (∀ o, (w1.alloc (.cells #[.int .i64 a, .int .i64 b, .int .i64 c] 86)).cell? ⟨w1.heap.size, o, none⟩ = (#[Value.int .i64 a, .int .i64 b, .int .i64 c] : Array Value)[o]?) := fun o => World.cell?_alloc_at _ _ _ _ rfl
  have HB1 := Lib.hid (bthen (bthen HB0.out hb1) hbo)
  have HZ1 : Hid (w.heap.size < w1.heap.size ∧ w1.heap.size < (w1.alloc (.cells #[.int .i64 a, .int .i64 b, .int .i64 c] 86)).heap.size) := ⟨Nat.lt_of_lt_of_le HZ0.out hb1.size, by simp⟩
  clear h1 hbo hb1 HR0 HF0 HB0 HZ0
  go_wp2_with fail
  refine (cbehind_any _ _ (by first | (rw [ByteArray.size_extract]; omega) | decide)).mono ?_
  rintro e w2 ⟨n, k2, rfl, h2, hb2⟩
  have H2 : Hid (behindL (s.data.toList.drop 6) = if k2 = true then some n else none) := by
    show _ = _
    rw [← drop_ext]; exact h2
  have HW := Lib.hid (clk_ways HNE.out H1.out H2.out)
  have HR2 : Hid (∀ o, w2.cell? ⟨w.heap.size, o, none⟩ = (#[Value.bool false, .int .i64 0, .int .i64 0, .int .i64 0, .int .i64 0] : Array Value)[o]?) := fun o => ((bcell hb2).1 _ o (Nat.lt_trans HZ1.out.1 HZ1.out.2)).trans (HR1.out o)
  have HF2 : Hid (∀ o, w2.frozen? ⟨w.heap.size, o, none⟩ = false) := fun o => ((bcell hb2).2 _ o (Nat.lt_trans HZ1.out.1 HZ1.out.2)).trans (HF1.out o)
  have HO2 : Hid (∀ o, w2.cell? ⟨w1.heap.size, o, none⟩ = (#[Value.int .i64 a, .int .i64 b, .int .i64 c] : Array Value)[o]?) := fun o => ((bcell hb2).1 _ o HZ1.out.2).trans (HO1.out o)
  have HB2 := Lib.hid (bthen HB1.out hb2)
  have HZ2 : Hid (w.heap.size < w2.heap.size) := Nat.lt_of_lt_of_le (Nat.lt_trans HZ1.out.1 HZ1.out.2) hb2.size
  clear h2 hb2 HR1 HF1 HB1 HO1 H1 H2 HNE HZ1
  have kk : (k1 = false ∨ k1 = true ∧ k2 = false) ∨ k1 = true ∧ k2 = true := by cases k1 <;> cases k2 <;> simp
  rcases kk with kk | ⟨rfl, rfl⟩
  · have HX : Hid (takeClk s.data.toList = (zC, 3)) := by
      have := HW.out
      rw [if_neg (by rcases kk with rfl | ⟨rfl, rfl⟩ <;> simp)] at this
      exact this
    have r0 := HR2.out 0
    have r1 := HR2.out 1
    have r2 := HR2.out 2
    have r3 := HR2.out 3
    have r4 := HR2.out 4
    have fz := HF2.out
    clear HW HO2
    rcases kk with rfl | ⟨rfl, rfl⟩
    all_goals
      go_wp2_with fail
      have hd := set5 (W := w2) (g := w.heap.size) (a := .bool false) (b := .int .i64 0) (c := .int .i64 0) (d := .int .i64 0) (e := .int .i64 0) (fun o ho => by rw [HR2.out o]; rcases (by omega : o = 0 ∨ o = 1 ∨ o = 2 ∨ o = 3 ∨ o = 4) with rfl | rfl | rfl | rfl | rfl <;> exact ⟨_, rfl⟩)
      have d0 := hd 0 (by omega)
      have d1 := hd 1 (by omega)
      have d2 := hd 2 (by omega)
      have d3 := hd 3 (by omega)
      have d4 := hd 4 (by omega)
      have hbl := set5_below (a := .bool false) (b := .int .i64 0) (c := .int .i64 0) (d := .int .i64 0) (e := .int .i64 0) HB2.out (Nat.le_refl _)
      generalize ((((w2.setCell ⟨w.heap.size, 0, none⟩ (.bool false)).setCell ⟨w.heap.size, 1, none⟩ (.int .i64 0)).setCell ⟨w.heap.size, 2, none⟩ (.int .i64 0)).setCell ⟨w.heap.size, 3, none⟩ (.int .i64 0)).setCell ⟨w.heap.size, 4, none⟩ (.int .i64 0) = w9 at *
      simp at d0 d1 d2 d3 d4
      exact bodyPost_ret (v := .tuple #[clkV false 0 0 0 0, .int .i64 3]) (by simp [results, Tryz.results19, go_sem, d0, d1, d2, d3, d4]) rfl ⟨by rw [HX.out]; rfl, hbl⟩
  · have HM := fun W => Lib.hid (cmay_any true a b c n W)
    obtain ⟨Y, hY⟩ : ∃ Y, clkB (true, a, b, c, n) = Y := ⟨_, rfl⟩
    rw [hY] at HM HW
    have o0 := HO2.out 0
    have o1 := HO2.out 1
    have o2 := HO2.out 2
    have hbc := below_new w2 (clkO true a b c n)
    have HB3 := Lib.hid (bthen HB2.out hbc)
    have HR3 : Hid (∀ o, (w2.alloc (clkO true a b c n)).cell? ⟨w.heap.size, o, none⟩ = (#[Value.bool false, .int .i64 0, .int .i64 0, .int .i64 0, .int .i64 0] : Array Value)[o]?) := fun o => ((bcell hbc).1 _ o HZ2.out).trans (HR2.out o)
    have HF3 : Hid (∀ o, (w2.alloc (clkO true a b c n)).frozen? ⟨w.heap.size, o, none⟩ = false) := fun o => ((bcell hbc).2 _ o HZ2.out).trans (HF2.out o)
    have HC3 : Hid (∀ o, (w2.alloc (clkO true a b c n)).cell? ⟨w2.heap.size, o, none⟩ = (#[Value.bool true, .int .i64 a, .int .i64 b, .int .i64 c, .int .i64 n] : Array Value)[o]?) := fun o => World.cell?_alloc_at _ _ _ _ rfl
    have HZ3 : Hid (w.heap.size < (w2.alloc (clkO true a b c n)).heap.size ∧ w2.heap.size < (w2.alloc (clkO true a b c n)).heap.size) := ⟨Nat.lt_of_lt_of_le HZ2.out hbc.size, by simp⟩
    clear hbc hY HO2
    go_wp2_with fail
    refine (HM _).out.mono ?_
    rintro e w4 ⟨rfl, hb4⟩
    have HR4 : Hid (∀ o, w4.cell? ⟨w.heap.size, o, none⟩ = (#[Value.bool false, .int .i64 0, .int .i64 0, .int .i64 0, .int .i64 0] : Array Value)[o]?) := fun o => ((bcell hb4).1 _ o HZ3.out.1).trans (HR3.out o)
    have HF4 : Hid (∀ o, w4.frozen? ⟨w.heap.size, o, none⟩ = false) := fun o => ((bcell hb4).2 _ o HZ3.out.1).trans (HF3.out o)
    have HC4 : Hid (∀ o, w4.cell? ⟨w2.heap.size, o, none⟩ = (#[Value.bool true, .int .i64 a, .int .i64 b, .int .i64 c, .int .i64 n] : Array Value)[o]?) := fun o => ((bcell hb4).1 _ o HZ3.out.2).trans (HC3.out o)
    have HB4 := Lib.hid (bthen HB3.out hb4)
    clear hb4 HR3 HF3 HC3 HB3 HR2 HF2 HB2 o0 o1 o2 HZ3
    have r0 := HR4.out 0
    have r1 := HR4.out 1
    have r2 := HR4.out 2
    have r3 := HR4.out 3
    have r4 := HR4.out 4
    have fz := HF4.out
    have c0 := HC4.out 0
    have c1 := HC4.out 1
    have c2 := HC4.out 2
    have c3 := HC4.out 3
    have c4 := HC4.out 4
    have hold : ∀ o, o < 5 → ∃ v, w4.cell? ⟨w.heap.size, o, none⟩ = some v := fun o ho => by rw [HR4.out o]; rcases (by omega : o = 0 ∨ o = 1 ∨ o = 2 ∨ o = 3 ∨ o = 4) with rfl | rfl | rfl | rfl | rfl <;> exact ⟨_, rfl⟩
    have HOLD := Lib.hid hold
    clear hold
    cases Y with
    | false =>
      have HX : Hid (takeClk s.data.toList = (zC, 5)) := HW.out
      clear HW
      go_wp2_with fail
      have hd := set5 (W := w4) (g := w.heap.size) (a := .bool false) (b := .int .i64 0) (c := .int .i64 0) (d := .int .i64 0) (e := .int .i64 0) HOLD.out
      have d0 := hd 0 (by omega)
      have d1 := hd 1 (by omega)
      have d2 := hd 2 (by omega)
      have d3 := hd 3 (by omega)
      have d4 := hd 4 (by omega)
      have hbl := set5_below (a := .bool false) (b := .int .i64 0) (c := .int .i64 0) (d := .int .i64 0) (e := .int .i64 0) HB4.out (Nat.le_refl _)
      generalize ((((w4.setCell ⟨w.heap.size, 0, none⟩ (.bool false)).setCell ⟨w.heap.size, 1, none⟩ (.int .i64 0)).setCell ⟨w.heap.size, 2, none⟩ (.int .i64 0)).setCell ⟨w.heap.size, 3, none⟩ (.int .i64 0)).setCell ⟨w.heap.size, 4, none⟩ (.int .i64 0) = w9 at *
      simp at d0 d1 d2 d3 d4
      exact bodyPost_ret (v := .tuple #[clkV false 0 0 0 0, .int .i64 5]) (by simp [results, Tryz.results19, go_sem, d0, d1, d2, d3, d4]) rfl ⟨by rw [HX.out]; rfl, hbl⟩
    | true =>
      have HX : Hid (takeClk s.data.toList = ((true, a, b, c, n), 0)) := HW.out
      clear HW
      go_wp2_with fail
      have hd := set5 (W := w4) (g := w.heap.size) (a := .bool true) (b := .int .i64 a) (c := .int .i64 b) (d := .int .i64 c) (e := .int .i64 n) HOLD.out
      have d0 := hd 0 (by omega)
      have d1 := hd 1 (by omega)
      have d2 := hd 2 (by omega)
      have d3 := hd 3 (by omega)
      have d4 := hd 4 (by omega)
      have hbl := set5_below (a := .bool true) (b := .int .i64 a) (c := .int .i64 b) (d := .int .i64 c) (e := .int .i64 n) HB4.out (Nat.le_refl _)
      generalize ((((w4.setCell ⟨w.heap.size, 0, none⟩ (.bool true)).setCell ⟨w.heap.size, 1, none⟩ (.int .i64 a)).setCell ⟨w.heap.size, 2, none⟩ (.int .i64 b)).setCell ⟨w.heap.size, 3, none⟩ (.int .i64 c)).setCell ⟨w.heap.size, 4, none⟩ (.int .i64 n) = w9 at *
      simp at d0 d1 d2 d3 d4
      exact bodyPost_ret (v := .tuple #[clkV true a b c n, .int .i64 0]) (by simp [results, Tryz.results19, go_sem, d0, d1, d2, d3, d4]) rfl ⟨by rw [HX.out], hbl⟩
theorem clkTake_any (s : ByteArray) (w : World) (hs : s.size ≤ 1000000) : Calls Tryz.prog 19 #[.string s] w (ClkPost (takeClk s.data.toList) w) := by
  by_cases h0 : 0 < s.size
  · by_cases h : s.size ≤ 6
    · exact clkTake_short s w hs h0 (by omega)
    · exact clkTake_long s w hs h0 (by omega)
  · obtain ⟨⟨l⟩⟩ := s
    cases l with
    | nil => exact clkTake_none w
    | cons a l => exact absurd (Nat.succ_pos _) h0
end Go.Proofs.YtfgopmfaeooadaaGreatDoor
