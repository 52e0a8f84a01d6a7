/- Layer 24: a text's date. -/
import Derived.Test.YtfgopmfaeooadaaGreatDoorMz8
namespace Go.Proofs.YtfgopmfaeooadaaGreatDoor
set_option linter.unusedVariables false
open Go.RowKit

abbrev datO (b : Bool) (d m y : Int) : Obj := .cells #[.bool b, .int .i64 d, .int .i64 m, .int .i64 y] 30
def DatPost (x : Dat × Int) (w : World) (e : Ending) (w' : World) : Prop :=
  e = .returned (.tuple #[datV x.1.1 x.1.2.1 x.1.2.2.1 x.1.2.2.2, .int .i64 x.2]) ∧ Below w.heap.size w w'
/-- Four cells, stored one behind the other. -/
theorem set4 {W : World} {g : Nat} {a b c d : Value} (h : ∀ o, o < 4 → ∃ v, W.cell? ⟨g, o, none⟩ = some v) :
    ∀ o, o < 4 → ((((W.setCell ⟨g, 0, none⟩ a).setCell ⟨g, 1, none⟩ b).setCell ⟨g, 2, none⟩ c).setCell ⟨g, 3, none⟩ d).cell? ⟨g, o, none⟩ = (#[a, b, c, d] : Array Value)[o]? := by
  have n : ∀ (i j : Nat), i ≠ j → (⟨g, i, none⟩ : Addr) ≠ ⟨g, j, none⟩ := fun i j hn q => by injection q with _ q; exact hn q
  intro o ho
  obtain ⟨v, hv⟩ := h o ho
  rcases (by omega : o = 0 ∨ o = 1 ∨ o = 2 ∨ o = 3) with rfl | rfl | rfl | rfl
  · rw [World.cell?_setCell_other _ _ _ _ (n 3 0 (by omega)), World.cell?_setCell_other _ _ _ _ (n 2 0 (by omega)), World.cell?_setCell_other _ _ _ _ (n 1 0 (by omega)), World.cell?_setCell_same' _ _ _ (by rw [hv]; rfl)]
    rfl
  · rw [World.cell?_setCell_other _ _ _ _ (n 3 1 (by omega)), World.cell?_setCell_other _ _ _ _ (n 2 1 (by omega)), World.cell?_setCell_same' _ _ _ (by rw [World.cell?_setCell_other _ _ _ _ (n 0 1 (by omega)), hv]; rfl)]
    rfl
  · rw [World.cell?_setCell_other _ _ _ _ (n 3 2 (by omega)), World.cell?_setCell_same' _ _ _ (by rw [World.cell?_setCell_other _ _ _ _ (n 1 2 (by omega)), World.cell?_setCell_other _ _ _ _ (n 0 2 (by omega)), hv]; rfl)]
    rfl
  · rw [World.cell?_setCell_same' _ _ _ (by rw [World.cell?_setCell_other _ _ _ _ (n 2 3 (by omega)), World.cell?_setCell_other _ _ _ _ (n 1 3 (by omega)), World.cell?_setCell_other _ _ _ _ (n 0 3 (by omega)), hv]; rfl)]
    rfl
theorem set4_below {B : Nat} {w0 W : World} {g : Nat} {a b c d : Value} (h : Below B w0 W) (hg : B ≤ g) : Below B w0 ((((W.setCell ⟨g, 0, none⟩ a).setCell ⟨g, 1, none⟩ b).setCell ⟨g, 2, none⟩ c).setCell ⟨g, 3, none⟩ d) :=
  (((h.setCell hg _).setCell hg _).setCell hg _).setCell hg _
theorem threeL_last {l : List UInt8} {a b c : Int} (h : threeL l = some (a, b, c)) : 0 ≤ c ∧ c ≤ 99 := by
  unfold threeL at h
  split at h
  · split at h
    · next q =>
      injection h with h
      injection h with _ h
      injection h with _ h
      simp only [Bool.and_eq_true] at q
      rw [← h]
      exact numP_le q.1.2 q.2
    · cases h
  · cases h
theorem dat_ways {l : List UInt8} (hl : l ≠ []) {a b c : Int} {k : Bool} (h : threeL l = if k = true then some (a, b, c) else none) :
    takeDat l = if k = true then (if datB (true, a, b, 2000 + c) = true then ((true, a, b, 2000 + c), 0) else (zD, 5)) else (zD, 3) := by
  unfold takeDat
  rw [if_neg hl, h]
  cases k <;> rfl
theorem datTake_none (w : World) : Calls Tryz.prog 32 #[.string ⟨#[]⟩] w (DatPost (zD, 0) w) := by
  go_enter Tryz.func32, Tryz.ntmps32
  go_wp2_with fail
  exact bodyPost_ret (v := .tuple #[datV false 0 0 0, .int .i64 0]) (by simp [results, Tryz.results32, go_sem]) rfl ⟨rfl, below_new _ _⟩
set_option maxRecDepth 8000 in
set_option maxHeartbeats 4000000 in
theorem datTake_some (s : ByteArray) (w : World) (hs : s.size ≤ 1000000) (h0 : 0 < s.size) : Calls Tryz.prog 32 #[.string s] w (DatPost (takeDat s.data.toList) w) := by
  obtain ⟨f1, f2⟩ := nonempty_forms h0
  have HNE : Hid (s.data.toList ≠ []) := fun q => by have := size_nil q; omega
  have HR0 : Hid (∀ o, (w.alloc (datO false 0 0 0)).cell? ⟨w.heap.size, o, none⟩ = (#[Value.bool false, .int .i64 0, .int .i64 0, .int .i64 0] : Array Value)[o]?) := fun o => World.cell?_alloc_at _ _ _ _ rfl
  have HF0 : Hid (∀ o, (w.alloc (datO false 0 0 0)).frozen? ⟨w.heap.size, o, none⟩ = false) := fun o => by rw [frozen?_alloc_cells]; exact frozen_past _ _ _ (Nat.le_refl _)
  have HB0 := Lib.hid (below_new w (datO false 0 0 0))
  have HZ0 : Hid (w.heap.size < (w.alloc (datO false 0 0 0)).heap.size) := by show _ < _; simp
  go_enter Tryz.func32, Tryz.ntmps32
  go_wp2_with fail
  refine (cthree_any _ _ hs).mono ?_
  rintro e w1 ⟨a, b, c, k, rfl, h1, hb1⟩
  have hbo := below_new w1 (.cells #[.int .i64 a, .int .i64 b, .int .i64 c] 86)
  have HW := Lib.hid (dat_ways HNE.out h1)
  have HC9 : Hid (k = true → 0 ≤ c ∧ c ≤ 99) := fun q => threeL_last (by rw [h1, if_pos q])
  have HR1 : Hid (∀ o, (w1.alloc (.cells #[.int .i64 a, .int .i64 b, .int .i64 c] 86)).cell? ⟨w.heap.size, o, none⟩ = (#[Value.bool false, .int .i64 0, .int .i64 0, .int .i64 0] : Array Value)[o]?) := fun o => ((bcell hbo).1 _ o (Nat.lt_of_lt_of_le HZ0.out hb1.size)).trans (((bcell hb1).1 _ o HZ0.out).trans (HR0.out o))
  have HF1 : Hid (∀ o, (w1.alloc (.cells #[.int .i64 a, .int .i64 b, .int .i64 c] 86)).frozen? ⟨w.heap.size, o, none⟩ = false) := fun o => ((bcell hbo).2 _ o (Nat.lt_of_lt_of_le HZ0.out hb1.size)).trans (((bcell hb1).2 _ o HZ0.out).trans (HF0.out o))
  have HO1 : Hid (∀ o, (w1.alloc (.cells #[.int .i64 a, .int .i64 b, .int .i64 c] 86)).cell? ⟨w1.heap.size, o, none⟩ = (#[Value.int .i64 a, .int .i64 b, .int .i64 c] : Array Value)[o]?) := fun o => World.cell?_alloc_at _ _ _ _ rfl
  have HB1 := Lib.hid (bthen (bthen HB0.out hb1) hbo)
  have HZ1 : Hid (w.heap.size < w1.heap.size ∧ w1.heap.size < (w1.alloc (.cells #[.int .i64 a, .int .i64 b, .int .i64 c] 86)).heap.size) := ⟨Nat.lt_of_lt_of_le HZ0.out hb1.size, by simp⟩
  clear h1 hbo hb1 HR0 HF0 HB0 HZ0 HNE
  cases k with
  | false =>
    have HX : Hid (takeDat s.data.toList = (zD, 3)) := HW.out
    have r0 := HR1.out 0
    have r1 := HR1.out 1
    have r2 := HR1.out 2
    have r3 := HR1.out 3
    have fz := HF1.out
    have HOLD : Hid (∀ o, o < 4 → ∃ v, (w1.alloc (.cells #[.int .i64 a, .int .i64 b, .int .i64 c] 86)).cell? ⟨w.heap.size, o, none⟩ = some v) := fun o ho => by rw [HR1.out o]; rcases (by omega : o = 0 ∨ o = 1 ∨ o = 2 ∨ o = 3) with rfl | rfl | rfl | rfl <;> exact ⟨_, rfl⟩
    clear HW HC9
    try dsimp only
    repeat (fail_if_success (show Code.wp _ (Code.seq (Code.region 2 _ _) _) _ _ _)
            first | go_values | go_skip | go_guarded | go_step | go_upon | go_back | (simp only [Int.not_lt, Int.not_le] at *; go_simp) | (go_ite <;> go_prune <;> (try go_simp)))
    generalize w1.alloc (.cells #[.int .i64 a, .int .i64 b, .int .i64 c] 86) = W1 at *
    go_wp2_with fail
    have hd := set4 (W := W1) (g := w.heap.size) (a := .bool false) (b := .int .i64 0) (c := .int .i64 0) (d := .int .i64 0) HOLD.out
    have d0 := hd 0 (by omega)
    have d1 := hd 1 (by omega)
    have d2 := hd 2 (by omega)
    have d3 := hd 3 (by omega)
    have hbl := set4_below (a := .bool false) (b := .int .i64 0) (c := .int .i64 0) (d := .int .i64 0) HB1.out (Nat.le_refl _)
    generalize (((W1.setCell ⟨w.heap.size, 0, none⟩ (.bool false)).setCell ⟨w.heap.size, 1, none⟩ (.int .i64 0)).setCell ⟨w.heap.size, 2, none⟩ (.int .i64 0)).setCell ⟨w.heap.size, 3, none⟩ (.int .i64 0) = w9 at *
    simp at d0 d1 d2 d3
    exact bodyPost_ret (v := .tuple #[datV false 0 0 0, .int .i64 3]) (by simp [results, Tryz.results32, go_sem, d0, d1, d2, d3]) rfl ⟨by rw [HX.out]; rfl, hbl⟩
  | true =>
    obtain ⟨c0, c9⟩ := HC9.out rfl
    have HM := fun W => Lib.hid (cmayDate_any true a b (2000 + c) W)
    obtain ⟨Y, hY⟩ : ∃ Y, datB (true, a, b, 2000 + c) = Y := ⟨_, rfl⟩
    have HW2 : Hid (takeDat s.data.toList = if Y = true then ((true, a, b, 2000 + c), 0) else (zD, 5)) := by rw [← hY]; exact HW.out
    rw [hY] at HM
    have hwr : IntKind.i64.wrap (2000 + c) = 2000 + c := IntWalk.i64_in _ (by omega)
    have HZE : Hid ((w1.alloc (.cells #[.int .i64 a, .int .i64 b, .int .i64 c] 86)).heap.size = w1.heap.size + 1) := by show _ = _; simp
    have o0 := HO1.out 0
    have o1 := HO1.out 1
    have o2 := HO1.out 2
    clear hY HW HC9
    try dsimp only
    repeat (fail_if_success (show Code.wp _ (Code.seq (Code.region 3 _ _) _) _ _ _)
            first | go_values | go_skip | go_guarded | go_step | go_upon | go_back | (simp only [Int.not_lt, Int.not_le] at *; go_simp) | (go_ite <;> go_prune <;> (try go_simp)))
    generalize w1.alloc (.cells #[.int .i64 a, .int .i64 b, .int .i64 c] 86) = W1 at *
    have hbc := below_new W1 (datO true a b (2000 + c))
    have HB3 := Lib.hid (bthen HB1.out hbc)
    have HR3 : Hid (∀ o, (W1.alloc (datO true a b (2000 + c))).cell? ⟨w.heap.size, o, none⟩ = (#[Value.bool false, .int .i64 0, .int .i64 0, .int .i64 0] : Array Value)[o]?) := fun o => ((bcell hbc).1 _ o (Nat.lt_trans HZ1.out.1 HZ1.out.2)).trans (HR1.out o)
    have HF3 : Hid (∀ o, (W1.alloc (datO true a b (2000 + c))).frozen? ⟨w.heap.size, o, none⟩ = false) := fun o => ((bcell hbc).2 _ o (Nat.lt_trans HZ1.out.1 HZ1.out.2)).trans (HF1.out o)
    have HC3 : Hid (∀ o, (W1.alloc (datO true a b (2000 + c))).cell? ⟨W1.heap.size, o, none⟩ = (#[Value.bool true, .int .i64 a, .int .i64 b, .int .i64 (2000 + c)] : Array Value)[o]?) := fun o => World.cell?_alloc_at _ _ _ _ rfl
    have HZ3 : Hid (w.heap.size < (W1.alloc (datO true a b (2000 + c))).heap.size ∧ W1.heap.size < (W1.alloc (datO true a b (2000 + c))).heap.size) := ⟨Nat.lt_of_lt_of_le (Nat.lt_trans HZ1.out.1 HZ1.out.2) hbc.size, by simp⟩
    clear hbc
    go_wp2_with fail
    refine (HM _).out.mono ?_
    rintro e w4 ⟨rfl, hb4⟩
    have HR4 : Hid (∀ o, w4.cell? ⟨w.heap.size, o, none⟩ = (#[Value.bool false, .int .i64 0, .int .i64 0, .int .i64 0] : Array Value)[o]?) := fun o => ((bcell hb4).1 _ o HZ3.out.1).trans (HR3.out o)
    have HF4 : Hid (∀ o, w4.frozen? ⟨w.heap.size, o, none⟩ = false) := fun o => ((bcell hb4).2 _ o HZ3.out.1).trans (HF3.out o)
    have HC4 : Hid (∀ o, w4.cell? ⟨W1.heap.size, o, none⟩ = (#[Value.bool true, .int .i64 a, .int .i64 b, .int .i64 (2000 + c)] : Array Value)[o]?) := fun o => ((bcell hb4).1 _ o HZ3.out.2).trans (HC3.out o)
    rw [HZE.out] at HC4
    have HB4 := Lib.hid (bthen HB3.out hb4)
    clear hb4 HR3 HF3 HC3 HB3 HR1 HF1 HB1 o0 o1 o2 HZ3 HO1 hwr
    generalize 2000 + c = yy at *
    have r0 := HR4.out 0
    have r1 := HR4.out 1
    have r2 := HR4.out 2
    have r3 := HR4.out 3
    have fz := HF4.out
    have m0 := HC4.out 0
    have m1 := HC4.out 1
    have m2 := HC4.out 2
    have m3 := HC4.out 3
    have HOLD : Hid (∀ o, o < 4 → ∃ v, w4.cell? ⟨w.heap.size, o, none⟩ = some v) := fun o ho => by rw [HR4.out o]; rcases (by omega : o = 0 ∨ o = 1 ∨ o = 2 ∨ o = 3) with rfl | rfl | rfl | rfl <;> exact ⟨_, rfl⟩
    cases Y with
    | false =>
      have HX : Hid (takeDat s.data.toList = (zD, 5)) := HW2.out
      clear HW2
      go_wp2_with fail
      have hd := set4 (W := w4) (g := w.heap.size) (a := .bool false) (b := .int .i64 0) (c := .int .i64 0) (d := .int .i64 0) HOLD.out
      have d0 := hd 0 (by omega)
      have d1 := hd 1 (by omega)
      have d2 := hd 2 (by omega)
      have d3 := hd 3 (by omega)
      have hbl := set4_below (a := .bool false) (b := .int .i64 0) (c := .int .i64 0) (d := .int .i64 0) HB4.out (Nat.le_refl _)
      generalize (((w4.setCell ⟨w.heap.size, 0, none⟩ (.bool false)).setCell ⟨w.heap.size, 1, none⟩ (.int .i64 0)).setCell ⟨w.heap.size, 2, none⟩ (.int .i64 0)).setCell ⟨w.heap.size, 3, none⟩ (.int .i64 0) = w9 at *
      simp at d0 d1 d2 d3
      exact bodyPost_ret (v := .tuple #[datV false 0 0 0, .int .i64 5]) (by simp [results, Tryz.results32, go_sem, d0, d1, d2, d3]) rfl ⟨by rw [HX.out]; rfl, hbl⟩
    | true =>
      have HX : Hid (takeDat s.data.toList = ((true, a, b, yy), 0)) := HW2.out
      clear HW2
      go_wp2_with fail
      have hd := set4 (W := w4) (g := w.heap.size) (a := .bool true) (b := .int .i64 a) (c := .int .i64 b) (d := .int .i64 yy) HOLD.out
      have d0 := hd 0 (by omega)
      have d1 := hd 1 (by omega)
      have d2 := hd 2 (by omega)
      have d3 := hd 3 (by omega)
      have hbl := set4_below (a := .bool true) (b := .int .i64 a) (c := .int .i64 b) (d := .int .i64 yy) HB4.out (Nat.le_refl _)
      generalize (((w4.setCell ⟨w.heap.size, 0, none⟩ (.bool true)).setCell ⟨w.heap.size, 1, none⟩ (.int .i64 a)).setCell ⟨w.heap.size, 2, none⟩ (.int .i64 b)).setCell ⟨w.heap.size, 3, none⟩ (.int .i64 yy) = w9 at *
      simp at d0 d1 d2 d3
      exact bodyPost_ret (v := .tuple #[datV true a b yy, .int .i64 0]) (by simp [results, Tryz.results32, go_sem, d0, d1, d2, d3]) rfl ⟨by rw [HX.out], hbl⟩
theorem datTake_any (s : ByteArray) (w : World) (hs : s.size ≤ 1000000) : Calls Tryz.prog 32 #[.string s] w (DatPost (takeDat s.data.toList) w) := by
  by_cases h0 : 0 < s.size
  · exact datTake_some s w hs h0
  · obtain ⟨⟨l⟩⟩ := s
    cases l with
    | nil => exact datTake_none w
    | cons a l => exact absurd (Nat.succ_pos _) h0
end Go.Proofs.YtfgopmfaeooadaaGreatDoor
