/- Arguments opened: messages of layers 25 to 27. Printed by genopen.py. -/
import Derived.Test.YtfgopmfaeooadaaGreatDoorMo
import Derived.Test.YtfgopmfaeooadaaGreatDoorMsa
namespace Go.Proofs.YtfgopmfaeooadaaGreatDoor
set_option linter.unusedVariables false
open Go.ChangeShapes Go.WideShapes Go.ChangeAt Go.RowKit Go.Joins Go.Deep

section
variable {H : Type} {enc : TypeId × Value → H} {P : Program} {w : World} {base : Nat} {spare : Nat → Bool} {held : Bool}

/-- A slice of numbers that came in: its list. -/
def IsInts (P : Program) (t : TypeId) : Prop := ∃ e, P.underlying t = some (.slice e) ∧ P.underlying e = some (.int .i64) ∧ P.cellsOf e = 1
theorem trod_ints {t : TypeId} {fuel : Nat} {v : Value} {x : DataW H × List MemPlace} (hg : IsInts P t) (h : DataW.trod enc P w base spare held fuel t [v] = some x) :
    ∃ (A : Option Addr) (c : Nat) (L : List Int), v = .slice A L.length c ∧ L.length ≤ maxLen ∧ Ints w w.heap.size A L := by
  obtain ⟨e, ht, he, hc⟩ := hg
  rcases open_ints ht he hc h with ⟨hcs, _⟩ | ⟨a, len, cap, zs, hcs, _, hl, hm, hz, _, hcell, _⟩
  · simp at hcs
    subst hcs
    exact ⟨none, 0, [], rfl, by simp, fun k hk => absurd hk (by simp)⟩
  · simp at hcs
    subst hcs
    have hlen : len ≤ zs.length := by split at hz <;> omega
    have hl2 : (zs.take len).length = len := by simp; omega
    refine ⟨some a, cap, zs.take len, by rw [hl2], by rw [hl2]; omega, ?_⟩
    intro k hk
    rw [hl2] at hk
    have hck := hcell k (by omega)
    have hge : zs.getD k 0 = (zs.take len)[k]'(by rw [hl2]; exact hk) := by
      rw [List.getElem_take, List.getD, List.getElem?_eq_getElem (by omega)]
      rfl
    rw [hge] at hck
    obtain ⟨b, off, spot⟩ := a
    have hspot : spot = none := World.cell?_spot (hcell 0 (by omega))
    subst hspot
    have hadd : (⟨b, off, none⟩ : Addr).add k = ⟨b, off + k, none⟩ := by
      unfold Addr.add
      split <;> simp_all
    rw [hadd] at hck
    exact ⟨b, off, rfl, World.block_lt_of_cell? w _ hck, hck⟩
/-- The type's form. -/
def IsNum (P : Program) (t : TypeId) : Prop := ∃ f0 f1 : Field, P.underlying t = some (.struct #[f0, f1]) ∧ [P.cellsOf t, f0.offset, f1.offset, P.cellsOf f0.type, P.cellsOf f1.type] = [2, 0, 1, 1, 1] ∧ P.underlying f0.type = some .bool ∧ P.underlying f1.type = some (.int .i64)
theorem trod_isnum {t : TypeId} {fuel : Nat} {c0 c1 : Value} {x : DataW H × List MemPlace} (hg : IsNum P t) (h : DataW.trod enc P w base spare held fuel t [c0, c1] = some x) : ∃ (v0 : Bool) (v1 : Int), [c0, c1] = [.bool v0, .int .i64 v1] := by
  obtain ⟨f0, f1, hs, hk, t0, t1⟩ := hg
  simp only [List.cons.injEq, and_true] at hk
  obtain ⟨k0, o0, o1, m0, m1⟩ := hk
  obtain ⟨xs, n, _, _, _, hxl, hf⟩ := DataW.trod_struct hs h
  match xs, hxl with
  | [y0, y1], _ =>
    have e0 := hf 0 f0 rfl
    rw [o0, m0] at e0
    have e0 : DataW.trod enc P w base spare held n f0.type [c0] = some y0 := e0
    obtain ⟨v0, q0, _⟩ := DataW.trod_bool t0 e0
    simp at q0
    subst q0
    have e1 := hf 1 f1 rfl
    rw [o1, m1] at e1
    have e1 : DataW.trod enc P w base spare held n f1.type [c1] = some y1 := e1
    obtain ⟨v1, q1, _⟩ := DataW.trod_int t1 e1
    simp at q1
    subst q1
    exact ⟨v0, v1, rfl⟩
/-- The type's form. -/
def IsClk (P : Program) (t : TypeId) : Prop := ∃ f0 f1 f2 f3 f4 : Field, P.underlying t = some (.struct #[f0, f1, f2, f3, f4]) ∧ [P.cellsOf t, f0.offset, f1.offset, f2.offset, f3.offset, f4.offset, P.cellsOf f0.type, P.cellsOf f1.type, P.cellsOf f2.type, P.cellsOf f3.type, P.cellsOf f4.type] = [5, 0, 1, 2, 3, 4, 1, 1, 1, 1, 1] ∧ P.underlying f0.type = some .bool ∧ P.underlying f1.type = some (.int .i64) ∧ P.underlying f2.type = some (.int .i64) ∧ P.underlying f3.type = some (.int .i64) ∧ P.underlying f4.type = some (.int .i64)
theorem trod_isclk {t : TypeId} {fuel : Nat} {c0 c1 c2 c3 c4 : Value} {x : DataW H × List MemPlace} (hg : IsClk P t) (h : DataW.trod enc P w base spare held fuel t [c0, c1, c2, c3, c4] = some x) : ∃ (v0 : Bool) (v1 : Int) (v2 : Int) (v3 : Int) (v4 : Int), [c0, c1, c2, c3, c4] = [.bool v0, .int .i64 v1, .int .i64 v2, .int .i64 v3, .int .i64 v4] := by
  obtain ⟨f0, f1, f2, f3, f4, hs, hk, t0, t1, t2, t3, t4⟩ := hg
  simp only [List.cons.injEq, and_true] at hk
  obtain ⟨k0, o0, o1, o2, o3, o4, m0, m1, m2, m3, m4⟩ := hk
  obtain ⟨xs, n, _, _, _, hxl, hf⟩ := DataW.trod_struct hs h
  match xs, hxl with
  | [y0, y1, y2, y3, y4], _ =>
    have e0 := hf 0 f0 rfl
    rw [o0, m0] at e0
    have e0 : DataW.trod enc P w base spare held n f0.type [c0] = some y0 := e0
    obtain ⟨v0, q0, _⟩ := DataW.trod_bool t0 e0
    simp at q0
    subst q0
    have e1 := hf 1 f1 rfl
    rw [o1, m1] at e1
    have e1 : DataW.trod enc P w base spare held n f1.type [c1] = some y1 := e1
    obtain ⟨v1, q1, _⟩ := DataW.trod_int t1 e1
    simp at q1
    subst q1
    have e2 := hf 2 f2 rfl
    rw [o2, m2] at e2
    have e2 : DataW.trod enc P w base spare held n f2.type [c2] = some y2 := e2
    obtain ⟨v2, q2, _⟩ := DataW.trod_int t2 e2
    simp at q2
    subst q2
    have e3 := hf 3 f3 rfl
    rw [o3, m3] at e3
    have e3 : DataW.trod enc P w base spare held n f3.type [c3] = some y3 := e3
    obtain ⟨v3, q3, _⟩ := DataW.trod_int t3 e3
    simp at q3
    subst q3
    have e4 := hf 4 f4 rfl
    rw [o4, m4] at e4
    have e4 : DataW.trod enc P w base spare held n f4.type [c4] = some y4 := e4
    obtain ⟨v4, q4, _⟩ := DataW.trod_int t4 e4
    simp at q4
    subst q4
    exact ⟨v0, v1, v2, v3, v4, rfl⟩
/-- The type's form. -/
def IsDat (P : Program) (t : TypeId) : Prop := ∃ f0 f1 f2 f3 : Field, P.underlying t = some (.struct #[f0, f1, f2, f3]) ∧ [P.cellsOf t, f0.offset, f1.offset, f2.offset, f3.offset, P.cellsOf f0.type, P.cellsOf f1.type, P.cellsOf f2.type, P.cellsOf f3.type] = [4, 0, 1, 2, 3, 1, 1, 1, 1] ∧ P.underlying f0.type = some .bool ∧ P.underlying f1.type = some (.int .i64) ∧ P.underlying f2.type = some (.int .i64) ∧ P.underlying f3.type = some (.int .i64)
theorem trod_isdat {t : TypeId} {fuel : Nat} {c0 c1 c2 c3 : Value} {x : DataW H × List MemPlace} (hg : IsDat P t) (h : DataW.trod enc P w base spare held fuel t [c0, c1, c2, c3] = some x) : ∃ (v0 : Bool) (v1 : Int) (v2 : Int) (v3 : Int), [c0, c1, c2, c3] = [.bool v0, .int .i64 v1, .int .i64 v2, .int .i64 v3] := by
  obtain ⟨f0, f1, f2, f3, hs, hk, t0, t1, t2, t3⟩ := hg
  simp only [List.cons.injEq, and_true] at hk
  obtain ⟨k0, o0, o1, o2, o3, m0, m1, m2, m3⟩ := hk
  obtain ⟨xs, n, _, _, _, hxl, hf⟩ := DataW.trod_struct hs h
  match xs, hxl with
  | [y0, y1, y2, y3], _ =>
    have e0 := hf 0 f0 rfl
    rw [o0, m0] at e0
    have e0 : DataW.trod enc P w base spare held n f0.type [c0] = some y0 := e0
    obtain ⟨v0, q0, _⟩ := DataW.trod_bool t0 e0
    simp at q0
    subst q0
    have e1 := hf 1 f1 rfl
    rw [o1, m1] at e1
    have e1 : DataW.trod enc P w base spare held n f1.type [c1] = some y1 := e1
    obtain ⟨v1, q1, _⟩ := DataW.trod_int t1 e1
    simp at q1
    subst q1
    have e2 := hf 2 f2 rfl
    rw [o2, m2] at e2
    have e2 : DataW.trod enc P w base spare held n f2.type [c2] = some y2 := e2
    obtain ⟨v2, q2, _⟩ := DataW.trod_int t2 e2
    simp at q2
    subst q2
    have e3 := hf 3 f3 rfl
    rw [o3, m3] at e3
    have e3 : DataW.trod enc P w base spare held n f3.type [c3] = some y3 := e3
    obtain ⟨v3, q3, _⟩ := DataW.trod_int t3 e3
    simp at q3
    subst q3
    exact ⟨v0, v1, v2, v3, rfl⟩
/-- The type's form. -/
def IsGsa (P : Program) (t : TypeId) : Prop := ∃ f0 f1 f2 f3 f4 f5 : Field, P.underlying t = some (.struct #[f0, f1, f2, f3, f4, f5]) ∧ [P.cellsOf t, f0.offset, f1.offset, f2.offset, f3.offset, f4.offset, f5.offset, P.cellsOf f0.type, P.cellsOf f1.type, P.cellsOf f2.type, P.cellsOf f3.type, P.cellsOf f4.type, P.cellsOf f5.type] = [9, 0, 1, 2, 3, 5, 7, 1, 1, 1, 2, 2, 2] ∧ P.underlying f0.type = some .bool ∧ P.underlying f1.type = some (.int .i64) ∧ IsInts P f2.type ∧ IsNum P f3.type ∧ IsNum P f4.type ∧ IsNum P f5.type
theorem trod_isgsa {t : TypeId} {fuel : Nat} {c0 c1 c2 c3 c4 c5 c6 c7 c8 : Value} {x : DataW H × List MemPlace} (hg : IsGsa P t) (h : DataW.trod enc P w base spare held fuel t [c0, c1, c2, c3, c4, c5, c6, c7, c8] = some x) : ∃ (v0 : Bool) (v1 : Int) (Av2 : Option Addr) (cv2 : Nat) (Lv2 : List Int) (v3_0 : Bool) (v3_1 : Int) (v4_0 : Bool) (v4_1 : Int) (v5_0 : Bool) (v5_1 : Int), [c0, c1, c2, c3, c4, c5, c6, c7, c8] = [.bool v0, .int .i64 v1, .slice Av2 Lv2.length cv2, .bool v3_0, .int .i64 v3_1, .bool v4_0, .int .i64 v4_1, .bool v5_0, .int .i64 v5_1] ∧ Lv2.length ≤ maxLen ∧ Ints w w.heap.size Av2 Lv2 := by
  obtain ⟨f0, f1, f2, f3, f4, f5, hs, hk, t0, t1, t2, t3, t4, t5⟩ := hg
  simp only [List.cons.injEq, and_true] at hk
  obtain ⟨k0, o0, o1, o2, o3, o4, o5, m0, m1, m2, m3, m4, m5⟩ := hk
  obtain ⟨xs, n, _, _, _, hxl, hf⟩ := DataW.trod_struct hs h
  match xs, hxl with
  | [y0, y1, y2, y3, y4, y5], _ =>
    have e0 := hf 0 f0 rfl
    rw [o0, m0] at e0
    have e0 : DataW.trod enc P w base spare held n f0.type [c0] = some y0 := e0
    obtain ⟨v0, q0, _⟩ := DataW.trod_bool t0 e0
    simp at q0
    subst q0
    have e1 := hf 1 f1 rfl
    rw [o1, m1] at e1
    have e1 : DataW.trod enc P w base spare held n f1.type [c1] = some y1 := e1
    obtain ⟨v1, q1, _⟩ := DataW.trod_int t1 e1
    simp at q1
    subst q1
    have e2 := hf 2 f2 rfl
    rw [o2, m2] at e2
    have e2 : DataW.trod enc P w base spare held n f2.type [c2] = some y2 := e2
    obtain ⟨Av2, cv2, Lv2, rfl, Bv2, Wv2⟩ := trod_ints t2 e2
    have e3 := hf 3 f3 rfl
    rw [o3, m3] at e3
    have e3 : DataW.trod enc P w base spare held n f3.type [c3, c4] = some y3 := e3
    obtain ⟨v3_0, v3_1, q3⟩ := trod_isnum t3 e3
    simp only [List.cons.injEq, and_true] at q3
    obtain ⟨rfl, rfl⟩ := q3
    have e4 := hf 4 f4 rfl
    rw [o4, m4] at e4
    have e4 : DataW.trod enc P w base spare held n f4.type [c5, c6] = some y4 := e4
    obtain ⟨v4_0, v4_1, q4⟩ := trod_isnum t4 e4
    simp only [List.cons.injEq, and_true] at q4
    obtain ⟨rfl, rfl⟩ := q4
    have e5 := hf 5 f5 rfl
    rw [o5, m5] at e5
    have e5 : DataW.trod enc P w base spare held n f5.type [c7, c8] = some y5 := e5
    obtain ⟨v5_0, v5_1, q5⟩ := trod_isnum t5 e5
    simp only [List.cons.injEq, and_true] at q5
    obtain ⟨rfl, rfl⟩ := q5
    exact ⟨v0, v1, Av2, cv2, Lv2, v3_0, v3_1, v4_0, v4_1, v5_0, v5_1, rfl, Bv2, Wv2⟩
/-- The type's form. -/
def IsGga (P : Program) (t : TypeId) : Prop := ∃ f0 f1 f2 f3 f4 f5 f6 f7 f8 f9 : Field, P.underlying t = some (.struct #[f0, f1, f2, f3, f4, f5, f6, f7, f8, f9]) ∧ [P.cellsOf t, f0.offset, f1.offset, f2.offset, f3.offset, f4.offset, f5.offset, f6.offset, f7.offset, f8.offset, f9.offset, P.cellsOf f0.type, P.cellsOf f1.type, P.cellsOf f2.type, P.cellsOf f3.type, P.cellsOf f4.type, P.cellsOf f5.type, P.cellsOf f6.type, P.cellsOf f7.type, P.cellsOf f8.type, P.cellsOf f9.type] = [22, 0, 5, 7, 9, 10, 12, 14, 16, 18, 20, 5, 2, 2, 1, 2, 2, 2, 2, 2, 2] ∧ IsClk P f0.type ∧ IsNum P f1.type ∧ IsNum P f2.type ∧ P.underlying f3.type = some (.int .i64) ∧ IsNum P f4.type ∧ IsNum P f5.type ∧ IsNum P f6.type ∧ IsNum P f7.type ∧ IsNum P f8.type ∧ IsNum P f9.type
theorem trod_isgga {t : TypeId} {fuel : Nat} {c0 c1 c2 c3 c4 c5 c6 c7 c8 c9 c10 c11 c12 c13 c14 c15 c16 c17 c18 c19 c20 c21 : Value} {x : DataW H × List MemPlace} (hg : IsGga P t) (h : DataW.trod enc P w base spare held fuel t [c0, c1, c2, c3, c4, c5, c6, c7, c8, c9, c10, c11, c12, c13, c14, c15, c16, c17, c18, c19, c20, c21] = some x) : ∃ (v0_0 : Bool) (v0_1 : Int) (v0_2 : Int) (v0_3 : Int) (v0_4 : Int) (v1_0 : Bool) (v1_1 : Int) (v2_0 : Bool) (v2_1 : Int) (v3 : Int) (v4_0 : Bool) (v4_1 : Int) (v5_0 : Bool) (v5_1 : Int) (v6_0 : Bool) (v6_1 : Int) (v7_0 : Bool) (v7_1 : Int) (v8_0 : Bool) (v8_1 : Int) (v9_0 : Bool) (v9_1 : Int), [c0, c1, c2, c3, c4, c5, c6, c7, c8, c9, c10, c11, c12, c13, c14, c15, c16, c17, c18, c19, c20, c21] = [.bool v0_0, .int .i64 v0_1, .int .i64 v0_2, .int .i64 v0_3, .int .i64 v0_4, .bool v1_0, .int .i64 v1_1, .bool v2_0, .int .i64 v2_1, .int .i64 v3, .bool v4_0, .int .i64 v4_1, .bool v5_0, .int .i64 v5_1, .bool v6_0, .int .i64 v6_1, .bool v7_0, .int .i64 v7_1, .bool v8_0, .int .i64 v8_1, .bool v9_0, .int .i64 v9_1] := by
  obtain ⟨f0, f1, f2, f3, f4, f5, f6, f7, f8, f9, hs, hk, t0, t1, t2, t3, t4, t5, t6, t7, t8, t9⟩ := hg
  simp only [List.cons.injEq, and_true] at hk
  obtain ⟨k0, o0, o1, o2, o3, o4, o5, o6, o7, o8, o9, m0, m1, m2, m3, m4, m5, m6, m7, m8, m9⟩ := hk
  obtain ⟨xs, n, _, _, _, hxl, hf⟩ := DataW.trod_struct hs h
  match xs, hxl with
  | [y0, y1, y2, y3, y4, y5, y6, y7, y8, y9], _ =>
    have e0 := hf 0 f0 rfl
    rw [o0, m0] at e0
    have e0 : DataW.trod enc P w base spare held n f0.type [c0, c1, c2, c3, c4] = some y0 := e0
    obtain ⟨v0_0, v0_1, v0_2, v0_3, v0_4, q0⟩ := trod_isclk t0 e0
    simp only [List.cons.injEq, and_true] at q0
    obtain ⟨rfl, rfl, rfl, rfl, rfl⟩ := q0
    have e1 := hf 1 f1 rfl
    rw [o1, m1] at e1
    have e1 : DataW.trod enc P w base spare held n f1.type [c5, c6] = some y1 := e1
    obtain ⟨v1_0, v1_1, q1⟩ := trod_isnum t1 e1
    simp only [List.cons.injEq, and_true] at q1
    obtain ⟨rfl, rfl⟩ := q1
    have e2 := hf 2 f2 rfl
    rw [o2, m2] at e2
    have e2 : DataW.trod enc P w base spare held n f2.type [c7, c8] = some y2 := e2
    obtain ⟨v2_0, v2_1, q2⟩ := trod_isnum t2 e2
    simp only [List.cons.injEq, and_true] at q2
    obtain ⟨rfl, rfl⟩ := q2
    have e3 := hf 3 f3 rfl
    rw [o3, m3] at e3
    have e3 : DataW.trod enc P w base spare held n f3.type [c9] = some y3 := e3
    obtain ⟨v3, q3, _⟩ := DataW.trod_int t3 e3
    simp at q3
    subst q3
    have e4 := hf 4 f4 rfl
    rw [o4, m4] at e4
    have e4 : DataW.trod enc P w base spare held n f4.type [c10, c11] = some y4 := e4
    obtain ⟨v4_0, v4_1, q4⟩ := trod_isnum t4 e4
    simp only [List.cons.injEq, and_true] at q4
    obtain ⟨rfl, rfl⟩ := q4
    have e5 := hf 5 f5 rfl
    rw [o5, m5] at e5
    have e5 : DataW.trod enc P w base spare held n f5.type [c12, c13] = some y5 := e5
    obtain ⟨v5_0, v5_1, q5⟩ := trod_isnum t5 e5
    simp only [List.cons.injEq, and_true] at q5
    obtain ⟨rfl, rfl⟩ := q5
    have e6 := hf 6 f6 rfl
    rw [o6, m6] at e6
    have e6 : DataW.trod enc P w base spare held n f6.type [c14, c15] = some y6 := e6
    obtain ⟨v6_0, v6_1, q6⟩ := trod_isnum t6 e6
    simp only [List.cons.injEq, and_true] at q6
    obtain ⟨rfl, rfl⟩ := q6
    have e7 := hf 7 f7 rfl
    rw [o7, m7] at e7
    have e7 : DataW.trod enc P w base spare held n f7.type [c16, c17] = some y7 := e7
    obtain ⟨v7_0, v7_1, q7⟩ := trod_isnum t7 e7
    simp only [List.cons.injEq, and_true] at q7
    obtain ⟨rfl, rfl⟩ := q7
    have e8 := hf 8 f8 rfl
    rw [o8, m8] at e8
    have e8 : DataW.trod enc P w base spare held n f8.type [c18, c19] = some y8 := e8
    obtain ⟨v8_0, v8_1, q8⟩ := trod_isnum t8 e8
    simp only [List.cons.injEq, and_true] at q8
    obtain ⟨rfl, rfl⟩ := q8
    have e9 := hf 9 f9 rfl
    rw [o9, m9] at e9
    have e9 : DataW.trod enc P w base spare held n f9.type [c20, c21] = some y9 := e9
    obtain ⟨v9_0, v9_1, q9⟩ := trod_isnum t9 e9
    simp only [List.cons.injEq, and_true] at q9
    obtain ⟨rfl, rfl⟩ := q9
    exact ⟨v0_0, v0_1, v0_2, v0_3, v0_4, v1_0, v1_1, v2_0, v2_1, v3, v4_0, v4_1, v5_0, v5_1, v6_0, v6_1, v7_0, v7_1, v8_0, v8_1, v9_0, v9_1, rfl⟩
/-- The type's form. -/
def IsRmc (P : Program) (t : TypeId) : Prop := ∃ f0 f1 f2 f3 f4 f5 f6 f7 : Field, P.underlying t = some (.struct #[f0, f1, f2, f3, f4, f5, f6, f7]) ∧ [P.cellsOf t, f0.offset, f1.offset, f2.offset, f3.offset, f4.offset, f5.offset, f6.offset, f7.offset, P.cellsOf f0.type, P.cellsOf f1.type, P.cellsOf f2.type, P.cellsOf f3.type, P.cellsOf f4.type, P.cellsOf f5.type, P.cellsOf f6.type, P.cellsOf f7.type] = [20, 0, 5, 6, 8, 10, 12, 14, 16, 5, 1, 2, 2, 2, 2, 2, 4] ∧ IsClk P f0.type ∧ P.underlying f1.type = some .bool ∧ IsNum P f2.type ∧ IsNum P f3.type ∧ IsNum P f4.type ∧ IsNum P f5.type ∧ IsNum P f6.type ∧ IsDat P f7.type
theorem trod_isrmc {t : TypeId} {fuel : Nat} {c0 c1 c2 c3 c4 c5 c6 c7 c8 c9 c10 c11 c12 c13 c14 c15 c16 c17 c18 c19 : Value} {x : DataW H × List MemPlace} (hg : IsRmc P t) (h : DataW.trod enc P w base spare held fuel t [c0, c1, c2, c3, c4, c5, c6, c7, c8, c9, c10, c11, c12, c13, c14, c15, c16, c17, c18, c19] = some x) : ∃ (v0_0 : Bool) (v0_1 : Int) (v0_2 : Int) (v0_3 : Int) (v0_4 : Int) (v1 : Bool) (v2_0 : Bool) (v2_1 : Int) (v3_0 : Bool) (v3_1 : Int) (v4_0 : Bool) (v4_1 : Int) (v5_0 : Bool) (v5_1 : Int) (v6_0 : Bool) (v6_1 : Int) (v7_0 : Bool) (v7_1 : Int) (v7_2 : Int) (v7_3 : Int), [c0, c1, c2, c3, c4, c5, c6, c7, c8, c9, c10, c11, c12, c13, c14, c15, c16, c17, c18, c19] = [.bool v0_0, .int .i64 v0_1, .int .i64 v0_2, .int .i64 v0_3, .int .i64 v0_4, .bool v1, .bool v2_0, .int .i64 v2_1, .bool v3_0, .int .i64 v3_1, .bool v4_0, .int .i64 v4_1, .bool v5_0, .int .i64 v5_1, .bool v6_0, .int .i64 v6_1, .bool v7_0, .int .i64 v7_1, .int .i64 v7_2, .int .i64 v7_3] := by
  obtain ⟨f0, f1, f2, f3, f4, f5, f6, f7, hs, hk, t0, t1, t2, t3, t4, t5, t6, t7⟩ := hg
  simp only [List.cons.injEq, and_true] at hk
  obtain ⟨k0, o0, o1, o2, o3, o4, o5, o6, o7, m0, m1, m2, m3, m4, m5, m6, m7⟩ := hk
  obtain ⟨xs, n, _, _, _, hxl, hf⟩ := DataW.trod_struct hs h
  match xs, hxl with
  | [y0, y1, y2, y3, y4, y5, y6, y7], _ =>
    have e0 := hf 0 f0 rfl
    rw [o0, m0] at e0
    have e0 : DataW.trod enc P w base spare held n f0.type [c0, c1, c2, c3, c4] = some y0 := e0
    obtain ⟨v0_0, v0_1, v0_2, v0_3, v0_4, q0⟩ := trod_isclk t0 e0
    simp only [List.cons.injEq, and_true] at q0
    obtain ⟨rfl, rfl, rfl, rfl, rfl⟩ := q0
    have e1 := hf 1 f1 rfl
    rw [o1, m1] at e1
    have e1 : DataW.trod enc P w base spare held n f1.type [c5] = some y1 := e1
    obtain ⟨v1, q1, _⟩ := DataW.trod_bool t1 e1
    simp at q1
    subst q1
    have e2 := hf 2 f2 rfl
    rw [o2, m2] at e2
    have e2 : DataW.trod enc P w base spare held n f2.type [c6, c7] = some y2 := e2
    obtain ⟨v2_0, v2_1, q2⟩ := trod_isnum t2 e2
    simp only [List.cons.injEq, and_true] at q2
    obtain ⟨rfl, rfl⟩ := q2
    have e3 := hf 3 f3 rfl
    rw [o3, m3] at e3
    have e3 : DataW.trod enc P w base spare held n f3.type [c8, c9] = some y3 := e3
    obtain ⟨v3_0, v3_1, q3⟩ := trod_isnum t3 e3
    simp only [List.cons.injEq, and_true] at q3
    obtain ⟨rfl, rfl⟩ := q3
    have e4 := hf 4 f4 rfl
    rw [o4, m4] at e4
    have e4 : DataW.trod enc P w base spare held n f4.type [c10, c11] = some y4 := e4
    obtain ⟨v4_0, v4_1, q4⟩ := trod_isnum t4 e4
    simp only [List.cons.injEq, and_true] at q4
    obtain ⟨rfl, rfl⟩ := q4
    have e5 := hf 5 f5 rfl
    rw [o5, m5] at e5
    have e5 : DataW.trod enc P w base spare held n f5.type [c12, c13] = some y5 := e5
    obtain ⟨v5_0, v5_1, q5⟩ := trod_isnum t5 e5
    simp only [List.cons.injEq, and_true] at q5
    obtain ⟨rfl, rfl⟩ := q5
    have e6 := hf 6 f6 rfl
    rw [o6, m6] at e6
    have e6 : DataW.trod enc P w base spare held n f6.type [c14, c15] = some y6 := e6
    obtain ⟨v6_0, v6_1, q6⟩ := trod_isnum t6 e6
    simp only [List.cons.injEq, and_true] at q6
    obtain ⟨rfl, rfl⟩ := q6
    have e7 := hf 7 f7 rfl
    rw [o7, m7] at e7
    have e7 : DataW.trod enc P w base spare held n f7.type [c16, c17, c18, c19] = some y7 := e7
    obtain ⟨v7_0, v7_1, v7_2, v7_3, q7⟩ := trod_isdat t7 e7
    simp only [List.cons.injEq, and_true] at q7
    obtain ⟨rfl, rfl, rfl, rfl⟩ := q7
    exact ⟨v0_0, v0_1, v0_2, v0_3, v0_4, v1, v2_0, v2_1, v3_0, v3_1, v4_0, v4_1, v5_0, v5_1, v6_0, v6_1, v7_0, v7_1, v7_2, v7_3, rfl⟩
theorem open_gsa {r : Reach} {b0 : Nat} {t : TypeId} {v : Value} {d : DataW H} {p : List MemPlace} (hg : IsGsa P t) (hv : Value.okWide P w r b0 t v) (h : DataW.Trod enc P w base spare held t v d p) : ∃ (v0 : Bool) (v1 : Int) (Av2 : Option Addr) (cv2 : Nat) (Lv2 : List Int) (v3_0 : Bool) (v3_1 : Int) (v4_0 : Bool) (v4_1 : Int) (v5_0 : Bool) (v5_1 : Int), v = .agg #[.bool v0, .int .i64 v1, .slice Av2 Lv2.length cv2, .bool v3_0, .int .i64 v3_1, .bool v4_0, .int .i64 v4_1, .bool v5_0, .int .i64 v5_1] ∧ Lv2.length ≤ maxLen ∧ Ints w w.heap.size Av2 Lv2 := by
  have hg0 := hg
  obtain ⟨f0, f1, f2, f3, f4, f5, hs, hk, -⟩ := hg0
  have k0 := (List.cons.inj hk).1
  obtain ⟨cs, rfl, hsz⟩ := okWide_struct hs hv
  obtain ⟨fuel, hf⟩ := h
  obtain ⟨l⟩ := cs
  match l, (hsz.trans k0 : l.length = 9), hf with
  | [c0, c1, c2, c3, c4, c5, c6, c7, c8], _, hf =>
    obtain ⟨v0, v1, Av2, cv2, Lv2, v3_0, v3_1, v4_0, v4_1, v5_0, v5_1, e, Bv2, Wv2⟩ := trod_isgsa hg hf
    exact ⟨v0, v1, Av2, cv2, Lv2, v3_0, v3_1, v4_0, v4_1, v5_0, v5_1, by rw [e], Bv2, Wv2⟩
theorem open_gga {r : Reach} {b0 : Nat} {t : TypeId} {v : Value} {d : DataW H} {p : List MemPlace} (hg : IsGga P t) (hv : Value.okWide P w r b0 t v) (h : DataW.Trod enc P w base spare held t v d p) : ∃ (v0_0 : Bool) (v0_1 : Int) (v0_2 : Int) (v0_3 : Int) (v0_4 : Int) (v1_0 : Bool) (v1_1 : Int) (v2_0 : Bool) (v2_1 : Int) (v3 : Int) (v4_0 : Bool) (v4_1 : Int) (v5_0 : Bool) (v5_1 : Int) (v6_0 : Bool) (v6_1 : Int) (v7_0 : Bool) (v7_1 : Int) (v8_0 : Bool) (v8_1 : Int) (v9_0 : Bool) (v9_1 : Int), v = .agg #[.bool v0_0, .int .i64 v0_1, .int .i64 v0_2, .int .i64 v0_3, .int .i64 v0_4, .bool v1_0, .int .i64 v1_1, .bool v2_0, .int .i64 v2_1, .int .i64 v3, .bool v4_0, .int .i64 v4_1, .bool v5_0, .int .i64 v5_1, .bool v6_0, .int .i64 v6_1, .bool v7_0, .int .i64 v7_1, .bool v8_0, .int .i64 v8_1, .bool v9_0, .int .i64 v9_1] := by
  have hg0 := hg
  obtain ⟨f0, f1, f2, f3, f4, f5, f6, f7, f8, f9, hs, hk, -⟩ := hg0
  have k0 := (List.cons.inj hk).1
  obtain ⟨cs, rfl, hsz⟩ := okWide_struct hs hv
  obtain ⟨fuel, hf⟩ := h
  obtain ⟨l⟩ := cs
  match l, (hsz.trans k0 : l.length = 22), hf with
  | [c0, c1, c2, c3, c4, c5, c6, c7, c8, c9, c10, c11, c12, c13, c14, c15, c16, c17, c18, c19, c20, c21], _, hf =>
    obtain ⟨v0_0, v0_1, v0_2, v0_3, v0_4, v1_0, v1_1, v2_0, v2_1, v3, v4_0, v4_1, v5_0, v5_1, v6_0, v6_1, v7_0, v7_1, v8_0, v8_1, v9_0, v9_1, e⟩ := trod_isgga hg hf
    exact ⟨v0_0, v0_1, v0_2, v0_3, v0_4, v1_0, v1_1, v2_0, v2_1, v3, v4_0, v4_1, v5_0, v5_1, v6_0, v6_1, v7_0, v7_1, v8_0, v8_1, v9_0, v9_1, by rw [e]⟩
theorem open_rmc {r : Reach} {b0 : Nat} {t : TypeId} {v : Value} {d : DataW H} {p : List MemPlace} (hg : IsRmc P t) (hv : Value.okWide P w r b0 t v) (h : DataW.Trod enc P w base spare held t v d p) : ∃ (v0_0 : Bool) (v0_1 : Int) (v0_2 : Int) (v0_3 : Int) (v0_4 : Int) (v1 : Bool) (v2_0 : Bool) (v2_1 : Int) (v3_0 : Bool) (v3_1 : Int) (v4_0 : Bool) (v4_1 : Int) (v5_0 : Bool) (v5_1 : Int) (v6_0 : Bool) (v6_1 : Int) (v7_0 : Bool) (v7_1 : Int) (v7_2 : Int) (v7_3 : Int), v = .agg #[.bool v0_0, .int .i64 v0_1, .int .i64 v0_2, .int .i64 v0_3, .int .i64 v0_4, .bool v1, .bool v2_0, .int .i64 v2_1, .bool v3_0, .int .i64 v3_1, .bool v4_0, .int .i64 v4_1, .bool v5_0, .int .i64 v5_1, .bool v6_0, .int .i64 v6_1, .bool v7_0, .int .i64 v7_1, .int .i64 v7_2, .int .i64 v7_3] := by
  have hg0 := hg
  obtain ⟨f0, f1, f2, f3, f4, f5, f6, f7, hs, hk, -⟩ := hg0
  have k0 := (List.cons.inj hk).1
  obtain ⟨cs, rfl, hsz⟩ := okWide_struct hs hv
  obtain ⟨fuel, hf⟩ := h
  obtain ⟨l⟩ := cs
  match l, (hsz.trans k0 : l.length = 20), hf with
  | [c0, c1, c2, c3, c4, c5, c6, c7, c8, c9, c10, c11, c12, c13, c14, c15, c16, c17, c18, c19], _, hf =>
    obtain ⟨v0_0, v0_1, v0_2, v0_3, v0_4, v1, v2_0, v2_1, v3_0, v3_1, v4_0, v4_1, v5_0, v5_1, v6_0, v6_1, v7_0, v7_1, v7_2, v7_3, e⟩ := trod_isrmc hg hf
    exact ⟨v0_0, v0_1, v0_2, v0_3, v0_4, v1, v2_0, v2_1, v3_0, v3_1, v4_0, v4_1, v5_0, v5_1, v6_0, v6_1, v7_0, v7_1, v7_2, v7_3, by rw [e]⟩
end
end Go.Proofs.YtfgopmfaeooadaaGreatDoor
