/- The law DecimTells, walked. -/
import Derived.Test.YtpaejoikfnmdhaaDoorLaw23
import Derived.Deep.RegionHeld3
namespace Go.Proofs.YtpaejoikfnmdhaaDoor
set_option linter.unusedVariables false
open Go.RowKit

/-- The cells that the last statement reads. -/
def TellsS (w0 : World) (g x y : Nat) (c0 c1 c2 c3 c4 p q : Value) (W : World) : Prop :=
  W.cell? ⟨g, 0, none⟩ = some c0 ∧ W.cell? ⟨g, 1, none⟩ = some c1 ∧ W.cell? ⟨g, 2, none⟩ = some c2 ∧ W.cell? ⟨g, 3, none⟩ = some c3 ∧ W.cell? ⟨g, 4, none⟩ = some c4 ∧
  W.cell? ⟨x, 0, none⟩ = some p ∧ W.cell? ⟨x, 1, none⟩ = some q ∧ W.cell? ⟨y, 0, none⟩ = some p ∧ W.cell? ⟨y, 1, none⟩ = some q ∧ Hid (Below w0.heap.size w0 W) ∧ Hid (g < W.heap.size) ∧ Hid (x < W.heap.size) ∧ Hid (y < W.heap.size)
theorem tellsS_below {w0 W W' : World} {g x y : Nat} {c0 c1 c2 c3 c4 p q : Value} (hb : Below W.heap.size W W') (h : W.cell? ⟨g, 0, none⟩ = some c0 ∧ W.cell? ⟨g, 1, none⟩ = some c1 ∧ W.cell? ⟨g, 2, none⟩ = some c2 ∧ W.cell? ⟨g, 3, none⟩ = some c3 ∧ W.cell? ⟨g, 4, none⟩ = some c4 ∧
    W.cell? ⟨x, 0, none⟩ = some p ∧ W.cell? ⟨x, 1, none⟩ = some q ∧ W.cell? ⟨y, 0, none⟩ = some p ∧ W.cell? ⟨y, 1, none⟩ = some q ∧ Hid (Below w0.heap.size w0 W) ∧ Hid (g < W.heap.size) ∧ Hid (x < W.heap.size) ∧ Hid (y < W.heap.size)) :
    W'.cell? ⟨g, 0, none⟩ = some c0 ∧ W'.cell? ⟨g, 1, none⟩ = some c1 ∧ W'.cell? ⟨g, 2, none⟩ = some c2 ∧ W'.cell? ⟨g, 3, none⟩ = some c3 ∧ W'.cell? ⟨g, 4, none⟩ = some c4 ∧
    W'.cell? ⟨x, 0, none⟩ = some p ∧ W'.cell? ⟨x, 1, none⟩ = some q ∧ W'.cell? ⟨y, 0, none⟩ = some p ∧ W'.cell? ⟨y, 1, none⟩ = some q ∧ Hid (Below w0.heap.size w0 W') ∧ Hid (g < W'.heap.size) ∧ Hid (x < W'.heap.size) ∧ Hid (y < W'.heap.size) := by
  obtain ⟨h0, h1, h2, h3, h4, h5, h6, h7, h8, h9, hg, hx, hy⟩ := h
  obtain ⟨c, -⟩ := bcell hb
  have hz := hb.size
  exact ⟨(c g 0 hg.out).trans h0, (c g 1 hg.out).trans h1, (c g 2 hg.out).trans h2, (c g 3 hg.out).trans h3, (c g 4 hg.out).trans h4, (c x 0 hx.out).trans h5, (c x 1 hx.out).trans h6, (c y 0 hy.out).trans h7, (c y 1 hy.out).trans h8, Lib.hid (bthen h9.out hb), Lib.hid (Nat.lt_of_lt_of_le hg.out hz), Lib.hid (Nat.lt_of_lt_of_le hx.out hz), Lib.hid (Nat.lt_of_lt_of_le hy.out hz)⟩

set_option maxRecDepth 8000 in
set_option maxHeartbeats 4000000 in
theorem decimTells_big (b : Bool) (n : Int) (s : ByteArray) (W M F L H : Int) (w : World) (hs : s.size ≤ maxLen) (hbig : 100 < s.size) :
    Calls Tryd.prog 3 #[numV b n, .string s, colV W M F L H] w fun e w' => e = .returned (.bool true) ∧ Below w.heap.size w w' := by
  have hi : (100 : Int) < (s.size : Int) := by omega
  unfold maxLen at hs
  have HK := fun W => Lib.hid (knows23_any W)
  go_enter Tryd.func3, Tryd.ntmps3
  go_wp2_with fail
  refine ((HK _).out).mono ?_
  rintro e w1 ⟨rfl, hb1⟩
  go_wp2_with fail
  go_ret
  exact ⟨rfl, bthen (bthen (below_new w _) (below_new _ _)) hb1⟩

set_option maxRecDepth 8000 in
set_option maxHeartbeats 4000000 in
theorem decimTells_small (b : Bool) (n : Int) (s : ByteArray) (W M F L H : Int) (w : World) (hs : s.size ≤ 100) :
    Calls Tryd.prog 3 #[numV b n, .string s, colV W M F L H] w fun e w' => e = .returned (.bool true) ∧ Below w.heap.size w w' := by
  have hi : (s.size : Int) ≤ 100 := by omega
  have HK := fun W => Lib.hid (knows23_any W)
  have HP := fun W' => Lib.hid (Put23_any b n W M F L H W')
  have HP2 := fun W' => Lib.hid (r23Put_any b n W M F L H W')
  have HT := fun W' => Lib.hid (Take23_any s W M F L H W' (by omega))
  have HT2 := fun W' => Lib.hid (r23Take_any s W M F L H W' (by omega))
  have HR := fun W' => Lib.hid (Right_any W M F L H W')
  have HR2 := fun W' => Lib.hid (r23Right_any W M F L H W')
  generalize (putN b n W M F L H).1 = A at *
  generalize (putN b n W M F L H).2 = E at *
  generalize (takeN s.data.toList W M F L H).1 = X1 at *
  generalize (takeN s.data.toList W M F L H).2.1 = X2 at *
  generalize (takeN s.data.toList W M F L H).2.2 = G at *
  generalize rightB W M F L H = R at *
  go_enter Tryd.func3, Tryd.ntmps3
  go_wp2_with fail
  refine ((HK _).out).mono ?_
  rintro e w1 ⟨rfl, hb1⟩
  obtain ⟨c1, f1⟩ := bcell hb1
  have hz1 := hb1.size
  simp at hz1
  have z1 : w.heap.size < w1.heap.size := by omega
  have y1 : w.heap.size + 1 < w1.heap.size := by omega
  have b1 := Lib.hid (bthen (bthen (below_new w _) (below_new _ _)) hb1)
  go_wp2_with fail
  refine ((HP _).out).mono ?_
  rintro e w2 ⟨rfl, hb2⟩
  obtain ⟨c2, f2⟩ := bcell hb2
  have hz2 := hb2.size
  have z2 : w.heap.size < w2.heap.size := by omega
  have y2 : w.heap.size + 1 < w2.heap.size := by omega
  go_wp2_with fail
  refine ((HP2 _).out).mono ?_
  rintro e w3 ⟨rfl, hb3⟩
  obtain ⟨c3, f3⟩ := bcell hb3
  have hz3 := hb3.size
  have z3 : w.heap.size < w3.heap.size := by omega
  have y3 : w.heap.size + 1 < w3.heap.size := by omega
  go_wp2_with fail
  refine ((HT _).out).mono ?_
  rintro e w4 ⟨rfl, hb4⟩
  obtain ⟨c4, f4⟩ := bcell hb4
  have hz4 := hb4.size
  have z4 : w.heap.size < w4.heap.size := by omega
  have y4 : w.heap.size + 1 < w4.heap.size := by omega
  go_wp2_with fail
  refine ((HT2 _).out).mono ?_
  rintro e w5 ⟨rfl, hb5⟩
  obtain ⟨c5, f5⟩ := bcell hb5
  have hz5 := hb5.size
  simp at hz5
  have z5 : w.heap.size < w5.heap.size := by omega
  have y5 : w.heap.size + 1 < w5.heap.size := by omega
  have x5 : w4.heap.size < w5.heap.size := by omega
  have b5 := Lib.hid (bthen (bthen (bthen (bthen (bthen b1.out hb2) hb3) hb4) (below_new _ _)) hb5)
  have col : ∀ o, w5.cell? ⟨w.heap.size + 1, o, none⟩ = (#[Value.int .i64 W, .int .i64 M, .int .i64 F, .int .i64 L, .int .i64 H] : Array Value)[o]? := by
    intro o
    rw [c5 _ _ (by simp; omega), World.cell?_alloc_past _ _ _ (by omega), c4 _ _ y3, c3 _ _ y2, c2 _ _ y1, c1 _ _ (by simp), World.cell?_alloc_at _ _ _ _ (by simp)]
  have xc : ∀ o, w5.cell? ⟨w4.heap.size, o, none⟩ = (#[Value.bool X1, .int .i64 X2] : Array Value)[o]? := by
    intro o
    rw [c5 _ _ (by simp), World.cell?_alloc_at _ _ _ _ rfl]
  go_wp2_with fail
  have HS0 : Hid (TellsS w (w.heap.size + 1) w4.heap.size w5.heap.size (.int .i64 W) (.int .i64 M) (.int .i64 F) (.int .i64 L) (.int .i64 H) (.bool X1) (.int .i64 X2) (w5.alloc (.cells #[.bool X1, .int .i64 X2] 23)).drew) :=
    ⟨(World.cell?_alloc_past _ _ _ y5).trans (col 0), (World.cell?_alloc_past _ _ _ y5).trans (col 1), (World.cell?_alloc_past _ _ _ y5).trans (col 2), (World.cell?_alloc_past _ _ _ y5).trans (col 3), (World.cell?_alloc_past _ _ _ y5).trans (col 4),
      (World.cell?_alloc_past _ _ _ x5).trans (xc 0), (World.cell?_alloc_past _ _ _ x5).trans (xc 1), World.cell?_alloc_at _ _ _ _ rfl, World.cell?_alloc_at _ _ _ _ rfl, Lib.hid (bdrew (bthen b5.out (below_new _ _))), Lib.hid (by show _ < (w5.alloc _).heap.size; simp; omega), Lib.hid (by show _ < (w5.alloc _).heap.size; simp; omega), Lib.hid (by show _ < (w5.alloc _).heap.size; simp)⟩
  unfold TellsS at HS0
  clear col xc b5 x5 y5 z5 hz5 c5 f5 hb5 y4 z4 hz4 c4 f4 hb4 y3 z3 hz3 c3 f3 hb3 y2 z2 hz2 c2 f2 hb2 b1 y1 z1 hz1 c1 f1 hb1 HP HP2 HT HT2 HK
  go_region_held3 (fun w' => w'.cell? ⟨w.heap.size + 1, 0, none⟩ = some (.int .i64 W) ∧ w'.cell? ⟨w.heap.size + 1, 1, none⟩ = some (.int .i64 M) ∧ w'.cell? ⟨w.heap.size + 1, 2, none⟩ = some (.int .i64 F) ∧ w'.cell? ⟨w.heap.size + 1, 3, none⟩ = some (.int .i64 L) ∧ w'.cell? ⟨w.heap.size + 1, 4, none⟩ = some (.int .i64 H) ∧ w'.cell? ⟨w4.heap.size, 0, none⟩ = some (.bool X1) ∧ w'.cell? ⟨w4.heap.size, 1, none⟩ = some (.int .i64 X2) ∧ w'.cell? ⟨w5.heap.size, 0, none⟩ = some (.bool X1) ∧ w'.cell? ⟨w5.heap.size, 1, none⟩ = some (.int .i64 X2) ∧ Hid (Below w.heap.size w w') ∧ Hid (w.heap.size + 1 < w'.heap.size) ∧ Hid (w4.heap.size < w'.heap.size) ∧ Hid (w5.heap.size < w'.heap.size)) (first | exact HS0.out | assumption | (refine tellsS_below (by assumption) ?_; assumption) | (go_split_ands; refine ⟨?_, ?_, ?_, ?_, ?_, ?_, ?_, ?_, ?_, ?_, ?_, ?_, ?_⟩ <;> assumption) | (go_split_ands; refine tellsS_below (by assumption) ⟨?_, ?_, ?_, ?_, ?_, ?_, ?_, ?_, ?_, ?_, ?_, ?_, ?_⟩ <;> assumption)) (first | (go_at_call 13; refine (num23_any _ _).mono ?_; rintro e w' ⟨rfl, rfl⟩) | (go_at_call 14; refine (HR _).out.mono ?_; rintro e w9 ⟨rfl, hb9⟩) | (go_at_call 15; refine (HR2 _).out.mono ?_; rintro e w9 ⟨rfl, hb9⟩))
  all_goals
    go_wp2_with fail
    go_ret
    go_split_ands
    exact ⟨rfl, Hid.out (by assumption)⟩

theorem decimTells_any (b : Bool) (n : Int) (s : ByteArray) (W M F L H : Int) (w : World) (hs : s.size ≤ maxLen) :
    Calls Tryd.prog 3 #[numV b n, .string s, colV W M F L H] w fun e w' => e = .returned (.bool true) ∧ Below w.heap.size w w' := by
  by_cases h : s.size ≤ 100
  · exact decimTells_small b n s W M F L H w h
  · exact decimTells_big b n s W M F L H w hs (by omega)

end Go.Proofs.YtpaejoikfnmdhaaDoor
