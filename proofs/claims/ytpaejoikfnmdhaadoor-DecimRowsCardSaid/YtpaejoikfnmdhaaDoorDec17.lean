/- Layer 23: the program's Take, case by case. -/
import Derived.Test.YtpaejoikfnmdhaaDoorDec16
namespace Go.Proofs.YtpaejoikfnmdhaaDoor
set_option linter.unusedVariables false
open Go.RowKit

theorem undrewN {w w' : World} {n : Nat} (h : Below (w.drewN n).heap.size (w.drewN n) w') : Below w.heap.size w w' := ⟨h.os, h.tape, h.output, h.size, h.block⟩
theorem two_cells (w : World) (g : Nat) (v0 v1 o0 o1 : Value) (h0 : w.cell? ⟨g, 0, none⟩ = some o0) (h1 : w.cell? ⟨g, 1, none⟩ = some o1) :
    ((w.setCell ⟨g, 0, none⟩ v0).setCell ⟨g, 1, none⟩ v1).cell? ⟨g, 0, none⟩ = some v0 ∧ ((w.setCell ⟨g, 0, none⟩ v0).setCell ⟨g, 1, none⟩ v1).cell? ⟨g, 1, none⟩ = some v1 := by
  have n01 : (⟨g, 1, none⟩ : Addr) ≠ ⟨g, 0, none⟩ := by simp
  refine ⟨?_, ?_⟩
  · rw [World.cell?_setCell_other _ _ _ _ n01]
    exact World.cell?_setCell_same _ _ _ h0
  · exact World.cell?_setCell_same _ _ _ ((World.cell?_setCell_other _ _ _ _ (fun e => n01 e.symm)).trans h1)

set_option maxRecDepth 8000 in
set_option maxHeartbeats 2000000 in
theorem Take_arg (s : ByteArray) (W M F L H : Int) (w : World) (hs : s.size ≤ 1000000) (HR : ∀ W', Hid (Calls Tryd.prog 14 #[colV W M F L H] W' fun e w' => e = .returned (.bool false) ∧ Below W'.heap.size W' w')) :
    Calls Tryd.prog 11 #[.string s, colV W M F L H] w fun e w' => e = .returned (.tuple #[numV false 0, .int .i64 1]) ∧ Below w.heap.size w w' := by
  go_enter Tryd.func11, Tryd.ntmps11
  go_wp2_with fail
  refine ((HR _).out).mono ?_
  rintro e w1 ⟨rfl, hb1⟩
  obtain ⟨c1, f1⟩ := bcell hb1
  have hz := hb1.size
  simp at hz
  have hz1 : w.heap.size < w1.heap.size := by omega
  have hz4 : w.heap.size + 1 < w1.heap.size := by omega
  have b1 := Lib.hid (bthen (bthen (below_new w _) (below_new _ _)) hb1)
  have q0 : w1.cell? ⟨w.heap.size + 1, 0, none⟩ = some (.bool false) := (c1 (w.heap.size + 1) 0 (by simp)).trans (by simp [World.cell?_alloc_at])
  have q1 : w1.cell? ⟨w.heap.size + 1, 1, none⟩ = some (.int .i64 0) := (c1 (w.heap.size + 1) 1 (by simp)).trans (by simp [World.cell?_alloc_at])
  go_wp2_with fail
  obtain ⟨p0, p1⟩ := two_cells w1 (w.heap.size + 1) (.bool false) (.int .i64 0) _ _ q0 q1
  refine bodyPost_ret (v := .tuple #[numV false 0, .int .i64 1]) (by simp [results, Tryd.results11, go_sem, p0, p1]) rfl ⟨rfl, ?_⟩
  exact (Below.setCell (Below.setCell b1.out (p := ⟨w.heap.size + 1, 0, none⟩) (by show w.heap.size ≤ w.heap.size + 1; omega) _) (p := ⟨w.heap.size + 1, 1, none⟩) (by show w.heap.size ≤ w.heap.size + 1; omega) _)

set_option maxRecDepth 8000 in
set_option maxHeartbeats 2000000 in
theorem Take_empty (s : ByteArray) (W M F L H : Int) (w : World) (hs : s.size ≤ 1000000) (HR : ∀ W', Hid (Calls Tryd.prog 14 #[colV W M F L H] W' fun e w' => e = .returned (.bool true) ∧ Below W'.heap.size W' w')) (h0 : s.size = 0) :
    Calls Tryd.prog 11 #[.string s, colV W M F L H] w fun e w' => e = .returned (.tuple #[numV false 0, .int .i64 0]) ∧ Below w.heap.size w w' := by
  obtain rfl : s = ⟨#[]⟩ := ByteArray.ext (Array.eq_empty_of_size_eq_zero h0)
  go_enter Tryd.func11, Tryd.ntmps11
  go_wp2_with fail
  refine ((HR _).out).mono ?_
  rintro e w1 ⟨rfl, hb1⟩
  obtain ⟨c1, f1⟩ := bcell hb1
  have hz := hb1.size
  simp at hz
  have hz1 : w.heap.size < w1.heap.size := by omega
  have hz4 : w.heap.size + 1 < w1.heap.size := by omega
  have b1 := Lib.hid (bthen (bthen (below_new w _) (below_new _ _)) hb1)
  have q0 : w1.cell? ⟨w.heap.size + 1, 0, none⟩ = some (.bool false) := (c1 (w.heap.size + 1) 0 (by simp)).trans (by simp [World.cell?_alloc_at])
  have q1 : w1.cell? ⟨w.heap.size + 1, 1, none⟩ = some (.int .i64 0) := (c1 (w.heap.size + 1) 1 (by simp)).trans (by simp [World.cell?_alloc_at])
  go_wp2_with fail
  obtain ⟨p0, p1⟩ := two_cells w1 (w.heap.size + 1) (.bool false) (.int .i64 0) _ _ q0 q1
  refine bodyPost_ret (v := .tuple #[numV false 0, .int .i64 0]) (by simp [results, Tryd.results11, go_sem, p0, p1]) rfl ⟨rfl, ?_⟩
  exact (Below.setCell (Below.setCell b1.out (p := ⟨w.heap.size + 1, 0, none⟩) (by show w.heap.size ≤ w.heap.size + 1; omega) _) (p := ⟨w.heap.size + 1, 1, none⟩) (by show w.heap.size ≤ w.heap.size + 1; omega) _)

set_option maxRecDepth 8000 in
set_option maxHeartbeats 2000000 in
theorem Take_form_pos (s : ByteArray) (W M F L H : Int) (n : Int) (w : World) (hs : s.size ≤ 1000000) (h0 : 0 < s.size) (hc : (((s[0]'h0).toNat : Int) == 45) = false) (HR : ∀ W', Hid (Calls Tryd.prog 14 #[colV W M F L H] W' fun e w' => e = .returned (.bool true) ∧ Below W'.heap.size W' w')) (HP : ∀ W', Hid (Calls Tryd.prog 48 #[.string s, .int .i64 1, .int .i64 M, .int .i64 F] W' fun e w' => e = .returned (.tuple #[.int .i64 n, .bool false]) ∧ Below W'.heap.size W' w')) :
    Calls Tryd.prog 11 #[.string s, colV W M F L H] w fun e w' => e = .returned (.tuple #[numV false 0, .int .i64 3]) ∧ Below w.heap.size w w' := by
  have i1 : (0 : Int) < (s.size : Int) := by omega
  have i2 : (1 : Int) ≤ (s.size : Int) := by omega
  obtain ⟨hne1, hne2⟩ := nonempty_forms h0
  go_enter Tryd.func11, Tryd.ntmps11
  go_wp2_with fail
  refine ((HR _).out).mono ?_
  rintro e w1 ⟨rfl, hb1⟩
  obtain ⟨c1, f1⟩ := bcell hb1
  have hz := hb1.size
  simp at hz
  have hz1 : w.heap.size < w1.heap.size := by omega
  have hz4 : w.heap.size + 1 < w1.heap.size := by omega
  have b1 := Lib.hid (bthen (bthen (below_new w _) (below_new _ _)) hb1)
  have q0 : w1.cell? ⟨w.heap.size + 1, 0, none⟩ = some (.bool false) := (c1 (w.heap.size + 1) 0 (by simp)).trans (by simp [World.cell?_alloc_at])
  have q1 : w1.cell? ⟨w.heap.size + 1, 1, none⟩ = some (.int .i64 0) := (c1 (w.heap.size + 1) 1 (by simp)).trans (by simp [World.cell?_alloc_at])
  go_wp2_with fail
  refine ((HP _).out).mono ?_
  rintro e w2 ⟨rfl, hb2⟩
  obtain ⟨c2, f2⟩ := bcell hb2
  have hz5 := hb2.size
  have hz6 : w.heap.size < w2.heap.size := by omega
  have hz7 : w.heap.size + 1 < w2.heap.size := by omega
  have b2 := Lib.hid (bthen b1.out hb2)
  replace q0 := (c2 _ 0 hz4).trans q0
  replace q1 := (c2 _ 1 hz4).trans q1
  go_wp2_with fail
  obtain ⟨p0, p1⟩ := two_cells w2 (w.heap.size + 1) (.bool false) (.int .i64 0) _ _ q0 q1
  refine bodyPost_ret (v := .tuple #[numV false 0, .int .i64 3]) (by simp [results, Tryd.results11, go_sem, p0, p1]) rfl ⟨rfl, ?_⟩
  exact (Below.setCell (Below.setCell b2.out (p := ⟨w.heap.size + 1, 0, none⟩) (by show w.heap.size ≤ w.heap.size + 1; omega) _) (p := ⟨w.heap.size + 1, 1, none⟩) (by show w.heap.size ≤ w.heap.size + 1; omega) _)

set_option maxRecDepth 8000 in
set_option maxHeartbeats 2000000 in
theorem Take_range_pos (s : ByteArray) (W M F L H : Int) (n : Int) (w : World) (hs : s.size ≤ 1000000) (h0 : 0 < s.size) (hc : (((s[0]'h0).toNat : Int) == 45) = false) (HR : ∀ W', Hid (Calls Tryd.prog 14 #[colV W M F L H] W' fun e w' => e = .returned (.bool true) ∧ Below W'.heap.size W' w')) (HP : ∀ W', Hid (Calls Tryd.prog 48 #[.string s, .int .i64 1, .int .i64 M, .int .i64 F] W' fun e w' => e = .returned (.tuple #[.int .i64 n, .bool true]) ∧ Below W'.heap.size W' w')) (hn0 : 0 ≤ n) (hn : n ≤ 2000000000000000000) (HF : ∀ W', Hid (Calls Tryd.prog 43 #[numV true n, .int .i64 L, .int .i64 H] W' fun e w' => e = .returned (.bool false) ∧ Below W'.heap.size W' w')) :
    Calls Tryd.prog 11 #[.string s, colV W M F L H] w fun e w' => e = .returned (.tuple #[numV false 0, .int .i64 5]) ∧ Below w.heap.size w w' := by
  have i1 : (0 : Int) < (s.size : Int) := by omega
  have i2 : (1 : Int) ≤ (s.size : Int) := by omega
  obtain ⟨hne1, hne2⟩ := nonempty_forms h0
  have e1 : (1 : Int) * n = n := Int.one_mul n
  have e2 : (-1 : Int) * n = -n := by rw [Int.neg_mul, Int.one_mul]
  go_enter Tryd.func11, Tryd.ntmps11
  go_wp2_with fail
  refine ((HR _).out).mono ?_
  rintro e w1 ⟨rfl, hb1⟩
  obtain ⟨c1, f1⟩ := bcell hb1
  have hz := hb1.size
  simp at hz
  have hz1 : w.heap.size < w1.heap.size := by omega
  have hz4 : w.heap.size + 1 < w1.heap.size := by omega
  have b1 := Lib.hid (bthen (bthen (below_new w _) (below_new _ _)) hb1)
  have q0 : w1.cell? ⟨w.heap.size + 1, 0, none⟩ = some (.bool false) := (c1 (w.heap.size + 1) 0 (by simp)).trans (by simp [World.cell?_alloc_at])
  have q1 : w1.cell? ⟨w.heap.size + 1, 1, none⟩ = some (.int .i64 0) := (c1 (w.heap.size + 1) 1 (by simp)).trans (by simp [World.cell?_alloc_at])
  go_wp2_with fail
  refine ((HP _).out).mono ?_
  rintro e w2 ⟨rfl, hb2⟩
  obtain ⟨c2, f2⟩ := bcell hb2
  have hz5 := hb2.size
  have hz6 : w.heap.size < w2.heap.size := by omega
  have hz7 : w.heap.size + 1 < w2.heap.size := by omega
  have b2 := Lib.hid (bthen b1.out hb2)
  replace q0 := (c2 _ 0 hz4).trans q0
  replace q1 := (c2 _ 1 hz4).trans q1
  go_wp2_with fail
  refine ((HF _).out).mono ?_
  rintro e w3 ⟨rfl, hb3⟩
  obtain ⟨c3, f3⟩ := bcell hb3
  have hz8 := hb3.size
  simp at hz8
  have hz9 : w2.heap.size < w3.heap.size := by omega
  have hz10 : w.heap.size + 1 < w3.heap.size := by omega
  have b3 := Lib.hid (bthen (bthen b2.out (below_new _ _)) hb3)
  replace q0 := (c3 (w.heap.size + 1) 0 (by simp; omega)).trans ((World.cell?_alloc_past _ _ _ (by omega)).trans q0)
  replace q1 := (c3 (w.heap.size + 1) 1 (by simp; omega)).trans ((World.cell?_alloc_past _ _ _ (by omega)).trans q1)
  go_wp2_with fail
  obtain ⟨p0, p1⟩ := two_cells w3 (w.heap.size + 1) (.bool false) (.int .i64 0) _ _ q0 q1
  refine bodyPost_ret (v := .tuple #[numV false 0, .int .i64 5]) (by simp [results, Tryd.results11, go_sem, p0, p1]) rfl ⟨rfl, ?_⟩
  exact (Below.setCell (Below.setCell b3.out (p := ⟨w.heap.size + 1, 0, none⟩) (by show w.heap.size ≤ w.heap.size + 1; omega) _) (p := ⟨w.heap.size + 1, 1, none⟩) (by show w.heap.size ≤ w.heap.size + 1; omega) _)

set_option maxRecDepth 8000 in
set_option maxHeartbeats 2000000 in
theorem Take_ok_pos (s : ByteArray) (W M F L H : Int) (n : Int) (w : World) (hs : s.size ≤ 1000000) (h0 : 0 < s.size) (hc : (((s[0]'h0).toNat : Int) == 45) = false) (HR : ∀ W', Hid (Calls Tryd.prog 14 #[colV W M F L H] W' fun e w' => e = .returned (.bool true) ∧ Below W'.heap.size W' w')) (HP : ∀ W', Hid (Calls Tryd.prog 48 #[.string s, .int .i64 1, .int .i64 M, .int .i64 F] W' fun e w' => e = .returned (.tuple #[.int .i64 n, .bool true]) ∧ Below W'.heap.size W' w')) (hn0 : 0 ≤ n) (hn : n ≤ 2000000000000000000) (HF : ∀ W', Hid (Calls Tryd.prog 43 #[numV true n, .int .i64 L, .int .i64 H] W' fun e w' => e = .returned (.bool true) ∧ Below W'.heap.size W' w')) :
    Calls Tryd.prog 11 #[.string s, colV W M F L H] w fun e w' => e = .returned (.tuple #[numV true n, .int .i64 0]) ∧ Below w.heap.size w w' := by
  have i1 : (0 : Int) < (s.size : Int) := by omega
  have i2 : (1 : Int) ≤ (s.size : Int) := by omega
  obtain ⟨hne1, hne2⟩ := nonempty_forms h0
  have e1 : (1 : Int) * n = n := Int.one_mul n
  have e2 : (-1 : Int) * n = -n := by rw [Int.neg_mul, Int.one_mul]
  go_enter Tryd.func11, Tryd.ntmps11
  go_wp2_with fail
  refine ((HR _).out).mono ?_
  rintro e w1 ⟨rfl, hb1⟩
  obtain ⟨c1, f1⟩ := bcell hb1
  have hz := hb1.size
  simp at hz
  have hz1 : w.heap.size < w1.heap.size := by omega
  have hz4 : w.heap.size + 1 < w1.heap.size := by omega
  have b1 := Lib.hid (bthen (bthen (below_new w _) (below_new _ _)) hb1)
  have q0 : w1.cell? ⟨w.heap.size + 1, 0, none⟩ = some (.bool false) := (c1 (w.heap.size + 1) 0 (by simp)).trans (by simp [World.cell?_alloc_at])
  have q1 : w1.cell? ⟨w.heap.size + 1, 1, none⟩ = some (.int .i64 0) := (c1 (w.heap.size + 1) 1 (by simp)).trans (by simp [World.cell?_alloc_at])
  go_wp2_with fail
  refine ((HP _).out).mono ?_
  rintro e w2 ⟨rfl, hb2⟩
  obtain ⟨c2, f2⟩ := bcell hb2
  have hz5 := hb2.size
  have hz6 : w.heap.size < w2.heap.size := by omega
  have hz7 : w.heap.size + 1 < w2.heap.size := by omega
  have b2 := Lib.hid (bthen b1.out hb2)
  replace q0 := (c2 _ 0 hz4).trans q0
  replace q1 := (c2 _ 1 hz4).trans q1
  go_wp2_with fail
  refine ((HF _).out).mono ?_
  rintro e w3 ⟨rfl, hb3⟩
  obtain ⟨c3, f3⟩ := bcell hb3
  have hz8 := hb3.size
  simp at hz8
  have hz9 : w2.heap.size < w3.heap.size := by omega
  have hz10 : w.heap.size + 1 < w3.heap.size := by omega
  have b3 := Lib.hid (bthen (bthen b2.out (below_new _ _)) hb3)
  replace q0 := (c3 (w.heap.size + 1) 0 (by simp; omega)).trans ((World.cell?_alloc_past _ _ _ (by omega)).trans q0)
  replace q1 := (c3 (w.heap.size + 1) 1 (by simp; omega)).trans ((World.cell?_alloc_past _ _ _ (by omega)).trans q1)
  go_wp2_with fail
  obtain ⟨p0, p1⟩ := two_cells w3 (w.heap.size + 1) (.bool true) (.int .i64 n) _ _ q0 q1
  refine bodyPost_ret (v := .tuple #[numV true n, .int .i64 0]) (by simp [results, Tryd.results11, go_sem, p0, p1]) rfl ⟨rfl, ?_⟩
  exact (Below.setCell (Below.setCell b3.out (p := ⟨w.heap.size + 1, 0, none⟩) (by show w.heap.size ≤ w.heap.size + 1; omega) _) (p := ⟨w.heap.size + 1, 1, none⟩) (by show w.heap.size ≤ w.heap.size + 1; omega) _)

set_option maxRecDepth 8000 in
set_option maxHeartbeats 2000000 in
theorem Take_form_neg (s : ByteArray) (W M F L H : Int) (n : Int) (w : World) (hs : s.size ≤ 1000000) (h0 : 0 < s.size) (hc : (((s[0]'h0).toNat : Int) == 45) = true) (HR : ∀ W', Hid (Calls Tryd.prog 14 #[colV W M F L H] W' fun e w' => e = .returned (.bool true) ∧ Below W'.heap.size W' w')) (HP : ∀ W', Hid (Calls Tryd.prog 48 #[.string (s.extract 1 s.size), .int .i64 1, .int .i64 M, .int .i64 F] W' fun e w' => e = .returned (.tuple #[.int .i64 n, .bool false]) ∧ Below W'.heap.size W' w')) :
    Calls Tryd.prog 11 #[.string s, colV W M F L H] w fun e w' => e = .returned (.tuple #[numV false 0, .int .i64 3]) ∧ Below w.heap.size w w' := by
  have i1 : (0 : Int) < (s.size : Int) := by omega
  have i2 : (1 : Int) ≤ (s.size : Int) := by omega
  obtain ⟨hne1, hne2⟩ := nonempty_forms h0
  go_enter Tryd.func11, Tryd.ntmps11
  go_wp2_with fail
  refine ((HR _).out).mono ?_
  rintro e w1 ⟨rfl, hb1⟩
  obtain ⟨c1, f1⟩ := bcell hb1
  have hz := hb1.size
  simp at hz
  have hz1 : w.heap.size < w1.heap.size := by omega
  have hz4 : w.heap.size + 1 < w1.heap.size := by omega
  have b1 := Lib.hid (bthen (bthen (below_new w _) (below_new _ _)) hb1)
  have q0 : w1.cell? ⟨w.heap.size + 1, 0, none⟩ = some (.bool false) := (c1 (w.heap.size + 1) 0 (by simp)).trans (by simp [World.cell?_alloc_at])
  have q1 : w1.cell? ⟨w.heap.size + 1, 1, none⟩ = some (.int .i64 0) := (c1 (w.heap.size + 1) 1 (by simp)).trans (by simp [World.cell?_alloc_at])
  go_wp2_with fail
  go_quiet (fail)
  go_wp2_with fail
  refine (HP _).out.mono ?_
  rintro e w2 ⟨rfl, hb2⟩
  replace hb2 := undrewN hb2
  obtain ⟨c2, f2⟩ := bcell hb2
  have hz5 := hb2.size
  have hz6 : w.heap.size < w2.heap.size := by omega
  have hz7 : w.heap.size + 1 < w2.heap.size := by omega
  have b2 := Lib.hid (bthen b1.out hb2)
  replace q0 := (c2 _ 0 hz4).trans q0
  replace q1 := (c2 _ 1 hz4).trans q1
  go_wp2_with fail
  obtain ⟨p0, p1⟩ := two_cells w2 (w.heap.size + 1) (.bool false) (.int .i64 0) _ _ q0 q1
  refine bodyPost_ret (v := .tuple #[numV false 0, .int .i64 3]) (by simp [results, Tryd.results11, go_sem, p0, p1]) rfl ⟨rfl, ?_⟩
  exact (Below.setCell (Below.setCell b2.out (p := ⟨w.heap.size + 1, 0, none⟩) (by show w.heap.size ≤ w.heap.size + 1; omega) _) (p := ⟨w.heap.size + 1, 1, none⟩) (by show w.heap.size ≤ w.heap.size + 1; omega) _)

set_option maxRecDepth 8000 in
set_option maxHeartbeats 2000000 in
theorem Take_range_neg (s : ByteArray) (W M F L H : Int) (n : Int) (w : World) (hs : s.size ≤ 1000000) (h0 : 0 < s.size) (hc : (((s[0]'h0).toNat : Int) == 45) = true) (HR : ∀ W', Hid (Calls Tryd.prog 14 #[colV W M F L H] W' fun e w' => e = .returned (.bool true) ∧ Below W'.heap.size W' w')) (HP : ∀ W', Hid (Calls Tryd.prog 48 #[.string (s.extract 1 s.size), .int .i64 1, .int .i64 M, .int .i64 F] W' fun e w' => e = .returned (.tuple #[.int .i64 n, .bool true]) ∧ Below W'.heap.size W' w')) (hn0 : 0 ≤ n) (hn : n ≤ 2000000000000000000) (HF : ∀ W', Hid (Calls Tryd.prog 43 #[numV true (-n), .int .i64 L, .int .i64 H] W' fun e w' => e = .returned (.bool false) ∧ Below W'.heap.size W' w')) :
    Calls Tryd.prog 11 #[.string s, colV W M F L H] w fun e w' => e = .returned (.tuple #[numV false 0, .int .i64 5]) ∧ Below w.heap.size w w' := by
  have i1 : (0 : Int) < (s.size : Int) := by omega
  have i2 : (1 : Int) ≤ (s.size : Int) := by omega
  obtain ⟨hne1, hne2⟩ := nonempty_forms h0
  have e1 : (1 : Int) * n = n := Int.one_mul n
  have e2 : (-1 : Int) * n = -n := by rw [Int.neg_mul, Int.one_mul]
  go_enter Tryd.func11, Tryd.ntmps11
  go_wp2_with fail
  refine ((HR _).out).mono ?_
  rintro e w1 ⟨rfl, hb1⟩
  obtain ⟨c1, f1⟩ := bcell hb1
  have hz := hb1.size
  simp at hz
  have hz1 : w.heap.size < w1.heap.size := by omega
  have hz4 : w.heap.size + 1 < w1.heap.size := by omega
  have b1 := Lib.hid (bthen (bthen (below_new w _) (below_new _ _)) hb1)
  have q0 : w1.cell? ⟨w.heap.size + 1, 0, none⟩ = some (.bool false) := (c1 (w.heap.size + 1) 0 (by simp)).trans (by simp [World.cell?_alloc_at])
  have q1 : w1.cell? ⟨w.heap.size + 1, 1, none⟩ = some (.int .i64 0) := (c1 (w.heap.size + 1) 1 (by simp)).trans (by simp [World.cell?_alloc_at])
  go_wp2_with fail
  go_quiet (fail)
  go_wp2_with fail
  refine (HP _).out.mono ?_
  rintro e w2 ⟨rfl, hb2⟩
  replace hb2 := undrewN hb2
  obtain ⟨c2, f2⟩ := bcell hb2
  have hz5 := hb2.size
  have hz6 : w.heap.size < w2.heap.size := by omega
  have hz7 : w.heap.size + 1 < w2.heap.size := by omega
  have b2 := Lib.hid (bthen b1.out hb2)
  replace q0 := (c2 _ 0 hz4).trans q0
  replace q1 := (c2 _ 1 hz4).trans q1
  go_wp2_with fail
  refine ((HF _).out).mono ?_
  rintro e w3 ⟨rfl, hb3⟩
  obtain ⟨c3, f3⟩ := bcell hb3
  have hz8 := hb3.size
  simp at hz8
  have hz9 : w2.heap.size < w3.heap.size := by omega
  have hz10 : w.heap.size + 1 < w3.heap.size := by omega
  have b3 := Lib.hid (bthen (bthen b2.out (below_new _ _)) hb3)
  replace q0 := (c3 (w.heap.size + 1) 0 (by simp; omega)).trans ((World.cell?_alloc_past _ _ _ (by omega)).trans q0)
  replace q1 := (c3 (w.heap.size + 1) 1 (by simp; omega)).trans ((World.cell?_alloc_past _ _ _ (by omega)).trans q1)
  go_wp2_with fail
  obtain ⟨p0, p1⟩ := two_cells w3 (w.heap.size + 1) (.bool false) (.int .i64 0) _ _ q0 q1
  refine bodyPost_ret (v := .tuple #[numV false 0, .int .i64 5]) (by simp [results, Tryd.results11, go_sem, p0, p1]) rfl ⟨rfl, ?_⟩
  exact (Below.setCell (Below.setCell b3.out (p := ⟨w.heap.size + 1, 0, none⟩) (by show w.heap.size ≤ w.heap.size + 1; omega) _) (p := ⟨w.heap.size + 1, 1, none⟩) (by show w.heap.size ≤ w.heap.size + 1; omega) _)

set_option maxRecDepth 8000 in
set_option maxHeartbeats 2000000 in
theorem Take_ok_neg (s : ByteArray) (W M F L H : Int) (n : Int) (w : World) (hs : s.size ≤ 1000000) (h0 : 0 < s.size) (hc : (((s[0]'h0).toNat : Int) == 45) = true) (HR : ∀ W', Hid (Calls Tryd.prog 14 #[colV W M F L H] W' fun e w' => e = .returned (.bool true) ∧ Below W'.heap.size W' w')) (HP : ∀ W', Hid (Calls Tryd.prog 48 #[.string (s.extract 1 s.size), .int .i64 1, .int .i64 M, .int .i64 F] W' fun e w' => e = .returned (.tuple #[.int .i64 n, .bool true]) ∧ Below W'.heap.size W' w')) (hn0 : 0 ≤ n) (hn : n ≤ 2000000000000000000) (HF : ∀ W', Hid (Calls Tryd.prog 43 #[numV true (-n), .int .i64 L, .int .i64 H] W' fun e w' => e = .returned (.bool true) ∧ Below W'.heap.size W' w')) :
    Calls Tryd.prog 11 #[.string s, colV W M F L H] w fun e w' => e = .returned (.tuple #[numV true (-n), .int .i64 0]) ∧ Below w.heap.size w w' := by
  have i1 : (0 : Int) < (s.size : Int) := by omega
  have i2 : (1 : Int) ≤ (s.size : Int) := by omega
  obtain ⟨hne1, hne2⟩ := nonempty_forms h0
  have e1 : (1 : Int) * n = n := Int.one_mul n
  have e2 : (-1 : Int) * n = -n := by rw [Int.neg_mul, Int.one_mul]
  go_enter Tryd.func11, Tryd.ntmps11
  go_wp2_with fail
  refine ((HR _).out).mono ?_
  rintro e w1 ⟨rfl, hb1⟩
  obtain ⟨c1, f1⟩ := bcell hb1
  have hz := hb1.size
  simp at hz
  have hz1 : w.heap.size < w1.heap.size := by omega
  have hz4 : w.heap.size + 1 < w1.heap.size := by omega
  have b1 := Lib.hid (bthen (bthen (below_new w _) (below_new _ _)) hb1)
  have q0 : w1.cell? ⟨w.heap.size + 1, 0, none⟩ = some (.bool false) := (c1 (w.heap.size + 1) 0 (by simp)).trans (by simp [World.cell?_alloc_at])
  have q1 : w1.cell? ⟨w.heap.size + 1, 1, none⟩ = some (.int .i64 0) := (c1 (w.heap.size + 1) 1 (by simp)).trans (by simp [World.cell?_alloc_at])
  go_wp2_with fail
  go_quiet (fail)
  go_wp2_with fail
  refine (HP _).out.mono ?_
  rintro e w2 ⟨rfl, hb2⟩
  replace hb2 := undrewN hb2
  obtain ⟨c2, f2⟩ := bcell hb2
  have hz5 := hb2.size
  have hz6 : w.heap.size < w2.heap.size := by omega
  have hz7 : w.heap.size + 1 < w2.heap.size := by omega
  have b2 := Lib.hid (bthen b1.out hb2)
  replace q0 := (c2 _ 0 hz4).trans q0
  replace q1 := (c2 _ 1 hz4).trans q1
  go_wp2_with fail
  refine ((HF _).out).mono ?_
  rintro e w3 ⟨rfl, hb3⟩
  obtain ⟨c3, f3⟩ := bcell hb3
  have hz8 := hb3.size
  simp at hz8
  have hz9 : w2.heap.size < w3.heap.size := by omega
  have hz10 : w.heap.size + 1 < w3.heap.size := by omega
  have b3 := Lib.hid (bthen (bthen b2.out (below_new _ _)) hb3)
  replace q0 := (c3 (w.heap.size + 1) 0 (by simp; omega)).trans ((World.cell?_alloc_past _ _ _ (by omega)).trans q0)
  replace q1 := (c3 (w.heap.size + 1) 1 (by simp; omega)).trans ((World.cell?_alloc_past _ _ _ (by omega)).trans q1)
  go_wp2_with fail
  obtain ⟨p0, p1⟩ := two_cells w3 (w.heap.size + 1) (.bool true) (.int .i64 (-n)) _ _ q0 q1
  refine bodyPost_ret (v := .tuple #[numV true (-n), .int .i64 0]) (by simp [results, Tryd.results11, go_sem, p0, p1]) rfl ⟨rfl, ?_⟩
  exact (Below.setCell (Below.setCell b3.out (p := ⟨w.heap.size + 1, 0, none⟩) (by show w.heap.size ≤ w.heap.size + 1; omega) _) (p := ⟨w.heap.size + 1, 1, none⟩) (by show w.heap.size ≤ w.heap.size + 1; omega) _)

end Go.Proofs.YtpaejoikfnmdhaaDoor
