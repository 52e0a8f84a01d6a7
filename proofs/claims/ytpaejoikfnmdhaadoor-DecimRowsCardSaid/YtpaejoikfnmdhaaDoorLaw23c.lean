/- The law DecimAngles, walked. -/
import Derived.Test.YtpaejoikfnmdhaaDoorLaw23b
import Derived.Deep.RegionHeld3
namespace Go.Proofs.YtpaejoikfnmdhaaDoor
set_option linter.unusedVariables false
open Go.RowKit

theorem angS_below {w0 W W' : World} {g x y : Nat} {c0 c1 p q : Value} (hb : Below W.heap.size W W') (h : W.cell? ⟨g, 0, none⟩ = some c0 ∧ W.cell? ⟨g, 1, none⟩ = some c1 ∧ W.cell? ⟨x, 0, none⟩ = some p ∧ W.cell? ⟨x, 1, none⟩ = some q ∧ W.cell? ⟨y, 0, none⟩ = some p ∧ W.cell? ⟨y, 1, none⟩ = some q ∧ Hid (Below w0.heap.size w0 W) ∧ Hid (g < W.heap.size) ∧ Hid (x < W.heap.size) ∧ Hid (y < W.heap.size)) :
    W'.cell? ⟨g, 0, none⟩ = some c0 ∧ W'.cell? ⟨g, 1, none⟩ = some c1 ∧ W'.cell? ⟨x, 0, none⟩ = some p ∧ W'.cell? ⟨x, 1, none⟩ = some q ∧ W'.cell? ⟨y, 0, none⟩ = some p ∧ W'.cell? ⟨y, 1, none⟩ = some q ∧ Hid (Below w0.heap.size w0 W') ∧ Hid (g < W'.heap.size) ∧ Hid (x < W'.heap.size) ∧ Hid (y < W'.heap.size) := by
  obtain ⟨h0, h1, h5, h6, h7, h8, h9, hg, hx, hy⟩ := h
  obtain ⟨c, -⟩ := bcell hb
  have hz := hb.size
  exact ⟨(c g 0 hg.out).trans h0, (c g 1 hg.out).trans h1, (c x 0 hx.out).trans h5, (c x 1 hx.out).trans h6, (c y 0 hy.out).trans h7, (c y 1 hy.out).trans h8, Lib.hid (bthen h9.out hb), Lib.hid (Nat.lt_of_lt_of_le hg.out hz), Lib.hid (Nat.lt_of_lt_of_le hx.out hz), Lib.hid (Nat.lt_of_lt_of_le hy.out hz)⟩
theorem below_draws {w : World} (k : Nat) : Below w.heap.size w (w.drewN k) := bdrewN (Below.refl _ _) k

set_option maxRecDepth 8000 in
set_option maxHeartbeats 4000000 in
theorem decimAngles_big (b : Bool) (n : Int) (s d : ByteArray) (lat : Bool) (w : World) (hs : s.size ≤ maxLen) (hd : d.size ≤ maxLen) (hbig : 100 < s.size ∨ s.size ≤ 100 ∧ 100 < d.size) :
    Calls Tryd.prog 5 #[numV b n, .string s, .string d, .bool lat] w fun e w' => e = .returned (.bool true) ∧ Below w.heap.size w w' := by
  unfold maxLen at hs hd
  have HK := fun W => Lib.hid (knows23_any W)
  rcases hbig with h | ⟨h, h'⟩
  · have hi : (100 : Int) < (s.size : Int) := by omega
    go_enter Tryd.func5, Tryd.ntmps5
    go_wp2_with fail
    refine ((HK _).out).mono ?_
    rintro e w1 ⟨rfl, hb1⟩
    go_wp2_with fail
    go_ret
    exact ⟨rfl, bthen (below_new w _) hb1⟩
  · have hi : (s.size : Int) ≤ 100 := by omega
    have hi2 : (100 : Int) < (d.size : Int) := by omega
    go_enter Tryd.func5, Tryd.ntmps5
    go_wp2_with fail
    refine ((HK _).out).mono ?_
    rintro e w1 ⟨rfl, hb1⟩
    go_wp2_with fail
    go_ret
    exact ⟨rfl, bthen (below_new w _) hb1⟩

set_option maxRecDepth 8000 in
set_option maxHeartbeats 4000000 in
theorem decimAngles_small (b : Bool) (n : Int) (s d : ByteArray) (lat : Bool) (w : World) (hs : s.size ≤ 100) (hd : d.size ≤ 100) :
    Calls Tryd.prog 5 #[numV b n, .string s, .string d, .bool lat] w fun e w' => e = .returned (.bool true) ∧ Below w.heap.size w w' := by
  have hi : (s.size : Int) ≤ 100 := by omega
  have hi2 : (d.size : Int) ≤ 100 := by omega
  have HK := fun W => Lib.hid (knows23_any W)
  have HP := fun W' => Lib.hid (Angle23_any b n lat W')
  have HP2 := fun W' => Lib.hid (r23Angle_any b n lat W')
  have HT := fun W' => Lib.hid (TakeAngle23_any s d lat W' (by omega))
  have HT2 := fun W' => Lib.hid (r23TakeAngle_any s d lat W' (by omega))
  have HR : ∀ W', Hid (Calls Tryd.prog 20 #[.int .i64 n] W' fun e w' => e = .returned (.int .i64 (degN n)) ∧ Below W'.heap.size W' w') := fun W' => Lib.hid ((Degrees_any n W').mono (by rintro e w' ⟨h, k, rfl⟩; exact ⟨h, below_draws k⟩))
  have HR2 := fun W' => Lib.hid (r23Degrees_any n W')
  generalize (angN b n lat).1 = A at *
  generalize (angN b n lat).2.1 = A2 at *
  generalize (angN b n lat).2.2 = E at *
  generalize (takeAng s.data.toList d lat).1 = X1 at *
  generalize (takeAng s.data.toList d lat).2.1 = X2 at *
  generalize (takeAng s.data.toList d lat).2.2 = G at *
  generalize degN n = R at *
  go_enter Tryd.func5, Tryd.ntmps5
  go_wp2_with fail
  refine ((HK _).out).mono ?_
  rintro e w1 ⟨rfl, hb1⟩
  obtain ⟨c1, f1⟩ := bcell hb1
  have hz1 := hb1.size
  simp at hz1
  have z1 : w.heap.size < w1.heap.size := by omega
  have b1 := Lib.hid (bthen (below_new w _) hb1)
  go_wp2_with fail
  refine ((HP _).out).mono ?_
  rintro e w2 ⟨rfl, hb2⟩
  obtain ⟨c2, f2⟩ := bcell hb2
  have hz2 := hb2.size
  have z2 : w.heap.size < w2.heap.size := by omega
  go_wp2_with fail
  refine ((HP2 _).out).mono ?_
  rintro e w3 ⟨rfl, hb3⟩
  obtain ⟨c3, f3⟩ := bcell hb3
  have hz3 := hb3.size
  have z3 : w.heap.size < w3.heap.size := by omega
  go_wp2_with fail
  refine ((HT _).out).mono ?_
  rintro e w4 ⟨rfl, hb4⟩
  obtain ⟨c4, f4⟩ := bcell hb4
  have hz4 := hb4.size
  have z4 : w.heap.size < w4.heap.size := by omega
  go_wp2_with fail
  refine ((HT2 _).out).mono ?_
  rintro e w5 ⟨rfl, hb5⟩
  obtain ⟨c5, f5⟩ := bcell hb5
  have hz5 := hb5.size
  simp at hz5
  have z5 : w.heap.size < w5.heap.size := by omega
  have x5 : w4.heap.size < w5.heap.size := by omega
  have b5 := Lib.hid (bthen (bthen (bthen (bthen (bthen b1.out hb2) hb3) hb4) (below_new _ _)) hb5)
  have col : ∀ o, w5.cell? ⟨w.heap.size, o, none⟩ = (#[Value.bool b, .int .i64 n] : Array Value)[o]? := by
    intro o
    rw [c5 _ _ (by simp; omega), World.cell?_alloc_past _ _ _ (by omega), c4 _ _ z3, c3 _ _ z2, c2 _ _ z1, c1 _ _ (by simp), World.cell?_alloc_at _ _ _ _ rfl]
  have xc : ∀ o, w5.cell? ⟨w4.heap.size, o, none⟩ = (#[Value.bool X1, .int .i64 X2] : Array Value)[o]? := by
    intro o
    rw [c5 _ _ (by simp), World.cell?_alloc_at _ _ _ _ rfl]
  go_wp2_with fail
  have HS0 : Hid ((w5.alloc (.cells #[.bool X1, .int .i64 X2] 23)).drew.cell? ⟨w.heap.size, 0, none⟩ = some (.bool b) ∧ (w5.alloc (.cells #[.bool X1, .int .i64 X2] 23)).drew.cell? ⟨w.heap.size, 1, none⟩ = some (.int .i64 n) ∧ (w5.alloc (.cells #[.bool X1, .int .i64 X2] 23)).drew.cell? ⟨w4.heap.size, 0, none⟩ = some (.bool X1) ∧ (w5.alloc (.cells #[.bool X1, .int .i64 X2] 23)).drew.cell? ⟨w4.heap.size, 1, none⟩ = some (.int .i64 X2) ∧ (w5.alloc (.cells #[.bool X1, .int .i64 X2] 23)).drew.cell? ⟨w5.heap.size, 0, none⟩ = some (.bool X1) ∧ (w5.alloc (.cells #[.bool X1, .int .i64 X2] 23)).drew.cell? ⟨w5.heap.size, 1, none⟩ = some (.int .i64 X2) ∧ Hid (Below w.heap.size w (w5.alloc (.cells #[.bool X1, .int .i64 X2] 23)).drew) ∧ Hid (w.heap.size < (w5.alloc (.cells #[.bool X1, .int .i64 X2] 23)).drew.heap.size) ∧ Hid (w4.heap.size < (w5.alloc (.cells #[.bool X1, .int .i64 X2] 23)).drew.heap.size) ∧ Hid (w5.heap.size < (w5.alloc (.cells #[.bool X1, .int .i64 X2] 23)).drew.heap.size)) :=
    ⟨(World.cell?_alloc_past _ _ _ z5).trans (col 0), (World.cell?_alloc_past _ _ _ z5).trans (col 1),
      (World.cell?_alloc_past _ _ _ x5).trans (xc 0), (World.cell?_alloc_past _ _ _ x5).trans (xc 1), World.cell?_alloc_at _ _ _ _ rfl, World.cell?_alloc_at _ _ _ _ rfl, Lib.hid (bdrew (bthen b5.out (below_new _ _))), Lib.hid (by show _ < (w5.alloc _).heap.size; simp; omega), Lib.hid (by show _ < (w5.alloc _).heap.size; simp; omega), Lib.hid (by show _ < (w5.alloc _).heap.size; simp)⟩
  clear col xc b5 x5 z5 hz5 c5 f5 hb5 z4 hz4 c4 f4 hb4 z3 hz3 c3 f3 hb3 z2 hz2 c2 f2 hb2 b1 z1 hz1 c1 f1 hb1 HP HP2 HT HT2 HK
  go_region_held3 (fun w' => w'.cell? ⟨w.heap.size, 0, none⟩ = some (.bool b) ∧ w'.cell? ⟨w.heap.size, 1, none⟩ = some (.int .i64 n) ∧ w'.cell? ⟨w4.heap.size, 0, none⟩ = some (.bool X1) ∧ w'.cell? ⟨w4.heap.size, 1, none⟩ = some (.int .i64 X2) ∧ w'.cell? ⟨w5.heap.size, 0, none⟩ = some (.bool X1) ∧ w'.cell? ⟨w5.heap.size, 1, none⟩ = some (.int .i64 X2) ∧ Hid (Below w.heap.size w w') ∧ Hid (w.heap.size < w'.heap.size) ∧ Hid (w4.heap.size < w'.heap.size) ∧ Hid (w5.heap.size < w'.heap.size)) (first | exact HS0.out | assumption | (refine angS_below (by assumption) ?_; assumption) | (go_split_ands; refine ⟨?_, ?_, ?_, ?_, ?_, ?_, ?_, ?_, ?_, ?_⟩ <;> assumption) | (go_split_ands; refine angS_below (by assumption) ⟨?_, ?_, ?_, ?_, ?_, ?_, ?_, ?_, ?_, ?_⟩ <;> assumption)) (first | (go_at_call 13; refine (num23_any _ _).mono ?_; rintro e w' ⟨rfl, rfl⟩) | (go_at_call 20; refine (HR _).out.mono ?_; rintro e w9 ⟨rfl, hb9⟩) | (go_at_call 21; refine (HR2 _).out.mono ?_; rintro e w9 ⟨rfl, rfl⟩))
  all_goals
    go_wp2_with fail
    go_ret
    go_split_ands
    exact ⟨rfl, Hid.out (by assumption)⟩

theorem decimAngles_any (b : Bool) (n : Int) (s d : ByteArray) (lat : Bool) (w : World) (hs : s.size ≤ maxLen) (hd : d.size ≤ maxLen) :
    Calls Tryd.prog 5 #[numV b n, .string s, .string d, .bool lat] w fun e w' => e = .returned (.bool true) ∧ Below w.heap.size w w' := by
  by_cases h : s.size ≤ 100
  · by_cases h2 : d.size ≤ 100
    · exact decimAngles_small b n s d lat w h h2
    · exact decimAngles_big b n s d lat w hs hd (.inr ⟨h, by omega⟩)
  · exact decimAngles_big b n s d lat w hs hd (.inl (by omega))

end Go.Proofs.YtpaejoikfnmdhaaDoor
