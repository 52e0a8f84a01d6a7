/- Layer 23: the reference's Take, case by case. -/
import Derived.Test.YtpaejoikfnmdhaaDoorDec17
namespace Go.Proofs.YtpaejoikfnmdhaaDoor
set_option linter.unusedVariables false
open Go.RowKit

set_option maxRecDepth 8000 in
set_option maxHeartbeats 2000000 in
theorem r23Take_arg (s : ByteArray) (W M F L H : Int) (w : World) (hs : s.size ≤ 1000000) (HR : ∀ W', Hid (Calls Tryd.prog 15 #[colV W M F L H] W' fun e w' => e = .returned (.bool false) ∧ Below W'.heap.size W' w')) :
    Calls Tryd.prog 12 #[.string s, colV W M F L H] w fun e w' => e = .returned (.tuple #[numV false 0, .int .i64 1]) ∧ Below w.heap.size w w' := by
  go_enter Tryd.func12, Tryd.ntmps12
  go_wp2_with fail
  refine ((HR _).out).mono ?_
  rintro e w1 ⟨rfl, hb1⟩
  obtain ⟨c1, f1⟩ := bcell hb1
  have hz := hb1.size
  simp at hz
  have hz1 : w.heap.size < w1.heap.size := by omega
  have hz4 : w.heap.size + 1 < w1.heap.size := by omega
  have b1 := Lib.hid (bthen (bthen (below_new w _) (below_new _ _)) hb1)
  have q0 : w1.cell? ⟨w.heap.size + 1, 0, none⟩ = some (.bool false) := (c1 (w.heap.size + 1) 0 (by simp)).trans (by simp [World.cell?_alloc_at])
  have q1 : w1.cell? ⟨w.heap.size + 1, 1, none⟩ = some (.int .i64 0) := (c1 (w.heap.size + 1) 1 (by simp)).trans (by simp [World.cell?_alloc_at])
  go_wp2_with fail
  obtain ⟨p0, p1⟩ := two_cells w1 (w.heap.size + 1) (.bool false) (.int .i64 0) _ _ q0 q1
  refine bodyPost_ret (v := .tuple #[numV false 0, .int .i64 1]) (by simp [results, Tryd.results12, go_sem, p0, p1]) rfl ⟨rfl, ?_⟩
  exact (Below.setCell (Below.setCell b1.out (p := ⟨w.heap.size + 1, 0, none⟩) (by show w.heap.size ≤ w.heap.size + 1; omega) _) (p := ⟨w.heap.size + 1, 1, none⟩) (by show w.heap.size ≤ w.heap.size + 1; omega) _)

set_option maxRecDepth 8000 in
set_option maxHeartbeats 2000000 in
theorem r23Take_empty (s : ByteArray) (W M F L H : Int) (w : World) (hs : s.size ≤ 1000000) (HR : ∀ W', Hid (Calls Tryd.prog 15 #[colV W M F L H] W' fun e w' => e = .returned (.bool true) ∧ Below W'.heap.size W' w')) (h0 : s.size = 0) :
    Calls Tryd.prog 12 #[.string s, colV W M F L H] w fun e w' => e = .returned (.tuple #[numV false 0, .int .i64 0]) ∧ Below w.heap.size w w' := by
  obtain rfl : s = ⟨#[]⟩ := ByteArray.ext (Array.eq_empty_of_size_eq_zero h0)
  go_enter Tryd.func12, Tryd.ntmps12
  go_wp2_with fail
  refine ((HR _).out).mono ?_
  rintro e w1 ⟨rfl, hb1⟩
  obtain ⟨c1, f1⟩ := bcell hb1
  have hz := hb1.size
  simp at hz
  have hz1 : w.heap.size < w1.heap.size := by omega
  have hz4 : w.heap.size + 1 < w1.heap.size := by omega
  have b1 := Lib.hid (bthen (bthen (below_new w _) (below_new _ _)) hb1)
  have q0 : w1.cell? ⟨w.heap.size + 1, 0, none⟩ = some (.bool false) := (c1 (w.heap.size + 1) 0 (by simp)).trans (by simp [World.cell?_alloc_at])
  have q1 : w1.cell? ⟨w.heap.size + 1, 1, none⟩ = some (.int .i64 0) := (c1 (w.heap.size + 1) 1 (by simp)).trans (by simp [World.cell?_alloc_at])
  go_wp2_with fail
  obtain ⟨p0, p1⟩ := two_cells w1 (w.heap.size + 1) (.bool false) (.int .i64 0) _ _ q0 q1
  refine bodyPost_ret (v := .tuple #[numV false 0, .int .i64 0]) (by simp [results, Tryd.results12, go_sem, p0, p1]) rfl ⟨rfl, ?_⟩
  exact (Below.setCell (Below.setCell b1.out (p := ⟨w.heap.size + 1, 0, none⟩) (by show w.heap.size ≤ w.heap.size + 1; omega) _) (p := ⟨w.heap.size + 1, 1, none⟩) (by show w.heap.size ≤ w.heap.size + 1; omega) _)

set_option maxRecDepth 8000 in
set_option maxHeartbeats 2000000 in
theorem r23Take_form_pos (s : ByteArray) (W M F L H : Int) (n : Int) (w : World) (hs : s.size ≤ 1000000) (h0 : 0 < s.size) (hc : (((s[0]'h0).toNat : Int) == 45) = false) (HR : ∀ W', Hid (Calls Tryd.prog 15 #[colV W M F L H] W' fun e w' => e = .returned (.bool true) ∧ Below W'.heap.size W' w')) (HP : ∀ W', Hid (Calls Tryd.prog 49 #[.string s, .int .i64 1, .int .i64 M, .int .i64 F] W' fun e w' => e = .returned (.tuple #[.int .i64 n, .bool false]) ∧ W' = w')) :
    Calls Tryd.prog 12 #[.string s, colV W M F L H] w fun e w' => e = .returned (.tuple #[numV false 0, .int .i64 3]) ∧ Below w.heap.size w w' := by
  have i1 : (0 : Int) < (s.size : Int) := by omega
  have i2 : (1 : Int) ≤ (s.size : Int) := by omega
  obtain ⟨hne1, hne2⟩ := nonempty_forms h0
  go_enter Tryd.func12, Tryd.ntmps12
  go_wp2_with fail
  refine ((HR _).out).mono ?_
  rintro e w1 ⟨rfl, hb1⟩
  obtain ⟨c1, f1⟩ := bcell hb1
  have hz := hb1.size
  simp at hz
  have hz1 : w.heap.size < w1.heap.size := by omega
  have hz4 : w.heap.size + 1 < w1.heap.size := by omega
  have b1 := Lib.hid (bthen (bthen (below_new w _) (below_new _ _)) hb1)
  have q0 : w1.cell? ⟨w.heap.size + 1, 0, none⟩ = some (.bool false) := (c1 (w.heap.size + 1) 0 (by simp)).trans (by simp [World.cell?_alloc_at])
  have q1 : w1.cell? ⟨w.heap.size + 1, 1, none⟩ = some (.int .i64 0) := (c1 (w.heap.size + 1) 1 (by simp)).trans (by simp [World.cell?_alloc_at])
  go_wp2_with fail
  refine ((HP _).out).mono ?_
  rintro e w2 ⟨rfl, rfl⟩
  have b2 := b1
  go_wp2_with fail
  obtain ⟨p0, p1⟩ := two_cells w1 (w.heap.size + 1) (.bool false) (.int .i64 0) _ _ q0 q1
  refine bodyPost_ret (v := .tuple #[numV false 0, .int .i64 3]) (by simp [results, Tryd.results12, go_sem, p0, p1]) rfl ⟨rfl, ?_⟩
  exact (Below.setCell (Below.setCell b2.out (p := ⟨w.heap.size + 1, 0, none⟩) (by show w.heap.size ≤ w.heap.size + 1; omega) _) (p := ⟨w.heap.size + 1, 1, none⟩) (by show w.heap.size ≤ w.heap.size + 1; omega) _)

set_option maxRecDepth 8000 in
set_option maxHeartbeats 2000000 in
theorem r23Take_low_pos (s : ByteArray) (W M F L H : Int) (n : Int) (w : World) (hs : s.size ≤ 1000000) (h0 : 0 < s.size) (hc : (((s[0]'h0).toNat : Int) == 45) = false) (HR : ∀ W', Hid (Calls Tryd.prog 15 #[colV W M F L H] W' fun e w' => e = .returned (.bool true) ∧ Below W'.heap.size W' w')) (HP : ∀ W', Hid (Calls Tryd.prog 49 #[.string s, .int .i64 1, .int .i64 M, .int .i64 F] W' fun e w' => e = .returned (.tuple #[.int .i64 n, .bool true]) ∧ W' = w')) (hn0 : 0 ≤ n) (hn : n ≤ 2000000000000000000) (hl : n < L) :
    Calls Tryd.prog 12 #[.string s, colV W M F L H] w fun e w' => e = .returned (.tuple #[numV false 0, .int .i64 5]) ∧ Below w.heap.size w w' := by
  have i1 : (0 : Int) < (s.size : Int) := by omega
  have i2 : (1 : Int) ≤ (s.size : Int) := by omega
  obtain ⟨hne1, hne2⟩ := nonempty_forms h0
  go_enter Tryd.func12, Tryd.ntmps12
  go_wp2_with fail
  refine ((HR _).out).mono ?_
  rintro e w1 ⟨rfl, hb1⟩
  obtain ⟨c1, f1⟩ := bcell hb1
  have hz := hb1.size
  simp at hz
  have hz1 : w.heap.size < w1.heap.size := by omega
  have hz4 : w.heap.size + 1 < w1.heap.size := by omega
  have b1 := Lib.hid (bthen (bthen (below_new w _) (below_new _ _)) hb1)
  have q0 : w1.cell? ⟨w.heap.size + 1, 0, none⟩ = some (.bool false) := (c1 (w.heap.size + 1) 0 (by simp)).trans (by simp [World.cell?_alloc_at])
  have q1 : w1.cell? ⟨w.heap.size + 1, 1, none⟩ = some (.int .i64 0) := (c1 (w.heap.size + 1) 1 (by simp)).trans (by simp [World.cell?_alloc_at])
  go_wp2_with fail
  refine ((HP _).out).mono ?_
  rintro e w2 ⟨rfl, rfl⟩
  have b2 := b1
  go_wp2_with fail
  obtain ⟨p0, p1⟩ := two_cells w1 (w.heap.size + 1) (.bool false) (.int .i64 0) _ _ q0 q1
  refine bodyPost_ret (v := .tuple #[numV false 0, .int .i64 5]) (by simp [results, Tryd.results12, go_sem, p0, p1]) rfl ⟨rfl, ?_⟩
  exact (Below.setCell (Below.setCell b2.out (p := ⟨w.heap.size + 1, 0, none⟩) (by show w.heap.size ≤ w.heap.size + 1; omega) _) (p := ⟨w.heap.size + 1, 1, none⟩) (by show w.heap.size ≤ w.heap.size + 1; omega) _)

set_option maxRecDepth 8000 in
set_option maxHeartbeats 2000000 in
theorem r23Take_high_pos (s : ByteArray) (W M F L H : Int) (n : Int) (w : World) (hs : s.size ≤ 1000000) (h0 : 0 < s.size) (hc : (((s[0]'h0).toNat : Int) == 45) = false) (HR : ∀ W', Hid (Calls Tryd.prog 15 #[colV W M F L H] W' fun e w' => e = .returned (.bool true) ∧ Below W'.heap.size W' w')) (HP : ∀ W', Hid (Calls Tryd.prog 49 #[.string s, .int .i64 1, .int .i64 M, .int .i64 F] W' fun e w' => e = .returned (.tuple #[.int .i64 n, .bool true]) ∧ W' = w')) (hn0 : 0 ≤ n) (hn : n ≤ 2000000000000000000) (hl : L ≤ n) (hh : H < n) :
    Calls Tryd.prog 12 #[.string s, colV W M F L H] w fun e w' => e = .returned (.tuple #[numV false 0, .int .i64 5]) ∧ Below w.heap.size w w' := by
  have i1 : (0 : Int) < (s.size : Int) := by omega
  have i2 : (1 : Int) ≤ (s.size : Int) := by omega
  obtain ⟨hne1, hne2⟩ := nonempty_forms h0
  go_enter Tryd.func12, Tryd.ntmps12
  go_wp2_with fail
  refine ((HR _).out).mono ?_
  rintro e w1 ⟨rfl, hb1⟩
  obtain ⟨c1, f1⟩ := bcell hb1
  have hz := hb1.size
  simp at hz
  have hz1 : w.heap.size < w1.heap.size := by omega
  have hz4 : w.heap.size + 1 < w1.heap.size := by omega
  have b1 := Lib.hid (bthen (bthen (below_new w _) (below_new _ _)) hb1)
  have q0 : w1.cell? ⟨w.heap.size + 1, 0, none⟩ = some (.bool false) := (c1 (w.heap.size + 1) 0 (by simp)).trans (by simp [World.cell?_alloc_at])
  have q1 : w1.cell? ⟨w.heap.size + 1, 1, none⟩ = some (.int .i64 0) := (c1 (w.heap.size + 1) 1 (by simp)).trans (by simp [World.cell?_alloc_at])
  go_wp2_with fail
  refine ((HP _).out).mono ?_
  rintro e w2 ⟨rfl, rfl⟩
  have b2 := b1
  go_wp2_with fail
  obtain ⟨p0, p1⟩ := two_cells w1 (w.heap.size + 1) (.bool false) (.int .i64 0) _ _ q0 q1
  refine bodyPost_ret (v := .tuple #[numV false 0, .int .i64 5]) (by simp [results, Tryd.results12, go_sem, p0, p1]) rfl ⟨rfl, ?_⟩
  exact (Below.setCell (Below.setCell b2.out (p := ⟨w.heap.size + 1, 0, none⟩) (by show w.heap.size ≤ w.heap.size + 1; omega) _) (p := ⟨w.heap.size + 1, 1, none⟩) (by show w.heap.size ≤ w.heap.size + 1; omega) _)

set_option maxRecDepth 8000 in
set_option maxHeartbeats 2000000 in
theorem r23Take_ok_pos (s : ByteArray) (W M F L H : Int) (n : Int) (w : World) (hs : s.size ≤ 1000000) (h0 : 0 < s.size) (hc : (((s[0]'h0).toNat : Int) == 45) = false) (HR : ∀ W', Hid (Calls Tryd.prog 15 #[colV W M F L H] W' fun e w' => e = .returned (.bool true) ∧ Below W'.heap.size W' w')) (HP : ∀ W', Hid (Calls Tryd.prog 49 #[.string s, .int .i64 1, .int .i64 M, .int .i64 F] W' fun e w' => e = .returned (.tuple #[.int .i64 n, .bool true]) ∧ W' = w')) (hn0 : 0 ≤ n) (hn : n ≤ 2000000000000000000) (hl : L ≤ n) (hh : n ≤ H) :
    Calls Tryd.prog 12 #[.string s, colV W M F L H] w fun e w' => e = .returned (.tuple #[numV true n, .int .i64 0]) ∧ Below w.heap.size w w' := by
  have i1 : (0 : Int) < (s.size : Int) := by omega
  have i2 : (1 : Int) ≤ (s.size : Int) := by omega
  obtain ⟨hne1, hne2⟩ := nonempty_forms h0
  go_enter Tryd.func12, Tryd.ntmps12
  go_wp2_with fail
  refine ((HR _).out).mono ?_
  rintro e w1 ⟨rfl, hb1⟩
  obtain ⟨c1, f1⟩ := bcell hb1
  have hz := hb1.size
  simp at hz
  have hz1 : w.heap.size < w1.heap.size := by omega
  have hz4 : w.heap.size + 1 < w1.heap.size := by omega
  have b1 := Lib.hid (bthen (bthen (below_new w _) (below_new _ _)) hb1)
  have q0 : w1.cell? ⟨w.heap.size + 1, 0, none⟩ = some (.bool false) := (c1 (w.heap.size + 1) 0 (by simp)).trans (by simp [World.cell?_alloc_at])
  have q1 : w1.cell? ⟨w.heap.size + 1, 1, none⟩ = some (.int .i64 0) := (c1 (w.heap.size + 1) 1 (by simp)).trans (by simp [World.cell?_alloc_at])
  go_wp2_with fail
  refine ((HP _).out).mono ?_
  rintro e w2 ⟨rfl, rfl⟩
  have b2 := b1
  go_wp2_with fail
  obtain ⟨p0, p1⟩ := two_cells w1 (w.heap.size + 1) (.bool true) (.int .i64 n) _ _ q0 q1
  refine bodyPost_ret (v := .tuple #[numV true n, .int .i64 0]) (by simp [results, Tryd.results12, go_sem, p0, p1]) rfl ⟨rfl, ?_⟩
  exact (Below.setCell (Below.setCell b2.out (p := ⟨w.heap.size + 1, 0, none⟩) (by show w.heap.size ≤ w.heap.size + 1; omega) _) (p := ⟨w.heap.size + 1, 1, none⟩) (by show w.heap.size ≤ w.heap.size + 1; omega) _)

set_option maxRecDepth 8000 in
set_option maxHeartbeats 2000000 in
theorem r23Take_form_neg (s : ByteArray) (W M F L H : Int) (n : Int) (w : World) (hs : s.size ≤ 1000000) (h0 : 0 < s.size) (hc : (((s[0]'h0).toNat : Int) == 45) = true) (HR : ∀ W', Hid (Calls Tryd.prog 15 #[colV W M F L H] W' fun e w' => e = .returned (.bool true) ∧ Below W'.heap.size W' w')) (HP : ∀ W', Hid (Calls Tryd.prog 49 #[.string (s.extract 1 s.size), .int .i64 1, .int .i64 M, .int .i64 F] W' fun e w' => e = .returned (.tuple #[.int .i64 n, .bool false]) ∧ W' = w')) :
    Calls Tryd.prog 12 #[.string s, colV W M F L H] w fun e w' => e = .returned (.tuple #[numV false 0, .int .i64 3]) ∧ Below w.heap.size w w' := by
  have i1 : (0 : Int) < (s.size : Int) := by omega
  have i2 : (1 : Int) ≤ (s.size : Int) := by omega
  obtain ⟨hne1, hne2⟩ := nonempty_forms h0
  go_enter Tryd.func12, Tryd.ntmps12
  go_wp2_with fail
  refine ((HR _).out).mono ?_
  rintro e w1 ⟨rfl, hb1⟩
  obtain ⟨c1, f1⟩ := bcell hb1
  have hz := hb1.size
  simp at hz
  have hz1 : w.heap.size < w1.heap.size := by omega
  have hz4 : w.heap.size + 1 < w1.heap.size := by omega
  have b1 := Lib.hid (bthen (bthen (below_new w _) (below_new _ _)) hb1)
  have q0 : w1.cell? ⟨w.heap.size + 1, 0, none⟩ = some (.bool false) := (c1 (w.heap.size + 1) 0 (by simp)).trans (by simp [World.cell?_alloc_at])
  have q1 : w1.cell? ⟨w.heap.size + 1, 1, none⟩ = some (.int .i64 0) := (c1 (w.heap.size + 1) 1 (by simp)).trans (by simp [World.cell?_alloc_at])
  go_wp2_with fail
  refine ((HP _).out).mono ?_
  rintro e w2 ⟨rfl, rfl⟩
  have b2 := b1
  go_wp2_with fail
  obtain ⟨p0, p1⟩ := two_cells w1 (w.heap.size + 1) (.bool false) (.int .i64 0) _ _ q0 q1
  refine bodyPost_ret (v := .tuple #[numV false 0, .int .i64 3]) (by simp [results, Tryd.results12, go_sem, p0, p1]) rfl ⟨rfl, ?_⟩
  exact (Below.setCell (Below.setCell b2.out (p := ⟨w.heap.size + 1, 0, none⟩) (by show w.heap.size ≤ w.heap.size + 1; omega) _) (p := ⟨w.heap.size + 1, 1, none⟩) (by show w.heap.size ≤ w.heap.size + 1; omega) _)

set_option maxRecDepth 8000 in
set_option maxHeartbeats 2000000 in
theorem r23Take_low_neg (s : ByteArray) (W M F L H : Int) (n : Int) (w : World) (hs : s.size ≤ 1000000) (h0 : 0 < s.size) (hc : (((s[0]'h0).toNat : Int) == 45) = true) (HR : ∀ W', Hid (Calls Tryd.prog 15 #[colV W M F L H] W' fun e w' => e = .returned (.bool true) ∧ Below W'.heap.size W' w')) (HP : ∀ W', Hid (Calls Tryd.prog 49 #[.string (s.extract 1 s.size), .int .i64 1, .int .i64 M, .int .i64 F] W' fun e w' => e = .returned (.tuple #[.int .i64 n, .bool true]) ∧ W' = w')) (hn0 : 0 ≤ n) (hn : n ≤ 2000000000000000000) (hl : (-n) < L) :
    Calls Tryd.prog 12 #[.string s, colV W M F L H] w fun e w' => e = .returned (.tuple #[numV false 0, .int .i64 5]) ∧ Below w.heap.size w w' := by
  have i1 : (0 : Int) < (s.size : Int) := by omega
  have i2 : (1 : Int) ≤ (s.size : Int) := by omega
  obtain ⟨hne1, hne2⟩ := nonempty_forms h0
  go_enter Tryd.func12, Tryd.ntmps12
  go_wp2_with fail
  refine ((HR _).out).mono ?_
  rintro e w1 ⟨rfl, hb1⟩
  obtain ⟨c1, f1⟩ := bcell hb1
  have hz := hb1.size
  simp at hz
  have hz1 : w.heap.size < w1.heap.size := by omega
  have hz4 : w.heap.size + 1 < w1.heap.size := by omega
  have b1 := Lib.hid (bthen (bthen (below_new w _) (below_new _ _)) hb1)
  have q0 : w1.cell? ⟨w.heap.size + 1, 0, none⟩ = some (.bool false) := (c1 (w.heap.size + 1) 0 (by simp)).trans (by simp [World.cell?_alloc_at])
  have q1 : w1.cell? ⟨w.heap.size + 1, 1, none⟩ = some (.int .i64 0) := (c1 (w.heap.size + 1) 1 (by simp)).trans (by simp [World.cell?_alloc_at])
  go_wp2_with fail
  refine ((HP _).out).mono ?_
  rintro e w2 ⟨rfl, rfl⟩
  have b2 := b1
  go_wp2_with fail
  obtain ⟨p0, p1⟩ := two_cells w1 (w.heap.size + 1) (.bool false) (.int .i64 0) _ _ q0 q1
  refine bodyPost_ret (v := .tuple #[numV false 0, .int .i64 5]) (by simp [results, Tryd.results12, go_sem, p0, p1]) rfl ⟨rfl, ?_⟩
  exact (Below.setCell (Below.setCell b2.out (p := ⟨w.heap.size + 1, 0, none⟩) (by show w.heap.size ≤ w.heap.size + 1; omega) _) (p := ⟨w.heap.size + 1, 1, none⟩) (by show w.heap.size ≤ w.heap.size + 1; omega) _)

set_option maxRecDepth 8000 in
set_option maxHeartbeats 2000000 in
theorem r23Take_high_neg (s : ByteArray) (W M F L H : Int) (n : Int) (w : World) (hs : s.size ≤ 1000000) (h0 : 0 < s.size) (hc : (((s[0]'h0).toNat : Int) == 45) = true) (HR : ∀ W', Hid (Calls Tryd.prog 15 #[colV W M F L H] W' fun e w' => e = .returned (.bool true) ∧ Below W'.heap.size W' w')) (HP : ∀ W', Hid (Calls Tryd.prog 49 #[.string (s.extract 1 s.size), .int .i64 1, .int .i64 M, .int .i64 F] W' fun e w' => e = .returned (.tuple #[.int .i64 n, .bool true]) ∧ W' = w')) (hn0 : 0 ≤ n) (hn : n ≤ 2000000000000000000) (hl : L ≤ (-n)) (hh : H < (-n)) :
    Calls Tryd.prog 12 #[.string s, colV W M F L H] w fun e w' => e = .returned (.tuple #[numV false 0, .int .i64 5]) ∧ Below w.heap.size w w' := by
  have i1 : (0 : Int) < (s.size : Int) := by omega
  have i2 : (1 : Int) ≤ (s.size : Int) := by omega
  obtain ⟨hne1, hne2⟩ := nonempty_forms h0
  go_enter Tryd.func12, Tryd.ntmps12
  go_wp2_with fail
  refine ((HR _).out).mono ?_
  rintro e w1 ⟨rfl, hb1⟩
  obtain ⟨c1, f1⟩ := bcell hb1
  have hz := hb1.size
  simp at hz
  have hz1 : w.heap.size < w1.heap.size := by omega
  have hz4 : w.heap.size + 1 < w1.heap.size := by omega
  have b1 := Lib.hid (bthen (bthen (below_new w _) (below_new _ _)) hb1)
  have q0 : w1.cell? ⟨w.heap.size + 1, 0, none⟩ = some (.bool false) := (c1 (w.heap.size + 1) 0 (by simp)).trans (by simp [World.cell?_alloc_at])
  have q1 : w1.cell? ⟨w.heap.size + 1, 1, none⟩ = some (.int .i64 0) := (c1 (w.heap.size + 1) 1 (by simp)).trans (by simp [World.cell?_alloc_at])
  go_wp2_with fail
  refine ((HP _).out).mono ?_
  rintro e w2 ⟨rfl, rfl⟩
  have b2 := b1
  go_wp2_with fail
  obtain ⟨p0, p1⟩ := two_cells w1 (w.heap.size + 1) (.bool false) (.int .i64 0) _ _ q0 q1
  refine bodyPost_ret (v := .tuple #[numV false 0, .int .i64 5]) (by simp [results, Tryd.results12, go_sem, p0, p1]) rfl ⟨rfl, ?_⟩
  exact (Below.setCell (Below.setCell b2.out (p := ⟨w.heap.size + 1, 0, none⟩) (by show w.heap.size ≤ w.heap.size + 1; omega) _) (p := ⟨w.heap.size + 1, 1, none⟩) (by show w.heap.size ≤ w.heap.size + 1; omega) _)

set_option maxRecDepth 8000 in
set_option maxHeartbeats 2000000 in
theorem r23Take_ok_neg (s : ByteArray) (W M F L H : Int) (n : Int) (w : World) (hs : s.size ≤ 1000000) (h0 : 0 < s.size) (hc : (((s[0]'h0).toNat : Int) == 45) = true) (HR : ∀ W', Hid (Calls Tryd.prog 15 #[colV W M F L H] W' fun e w' => e = .returned (.bool true) ∧ Below W'.heap.size W' w')) (HP : ∀ W', Hid (Calls Tryd.prog 49 #[.string (s.extract 1 s.size), .int .i64 1, .int .i64 M, .int .i64 F] W' fun e w' => e = .returned (.tuple #[.int .i64 n, .bool true]) ∧ W' = w')) (hn0 : 0 ≤ n) (hn : n ≤ 2000000000000000000) (hl : L ≤ (-n)) (hh : (-n) ≤ H) :
    Calls Tryd.prog 12 #[.string s, colV W M F L H] w fun e w' => e = .returned (.tuple #[numV true (-n), .int .i64 0]) ∧ Below w.heap.size w w' := by
  have i1 : (0 : Int) < (s.size : Int) := by omega
  have i2 : (1 : Int) ≤ (s.size : Int) := by omega
  obtain ⟨hne1, hne2⟩ := nonempty_forms h0
  go_enter Tryd.func12, Tryd.ntmps12
  go_wp2_with fail
  refine ((HR _).out).mono ?_
  rintro e w1 ⟨rfl, hb1⟩
  obtain ⟨c1, f1⟩ := bcell hb1
  have hz := hb1.size
  simp at hz
  have hz1 : w.heap.size < w1.heap.size := by omega
  have hz4 : w.heap.size + 1 < w1.heap.size := by omega
  have b1 := Lib.hid (bthen (bthen (below_new w _) (below_new _ _)) hb1)
  have q0 : w1.cell? ⟨w.heap.size + 1, 0, none⟩ = some (.bool false) := (c1 (w.heap.size + 1) 0 (by simp)).trans (by simp [World.cell?_alloc_at])
  have q1 : w1.cell? ⟨w.heap.size + 1, 1, none⟩ = some (.int .i64 0) := (c1 (w.heap.size + 1) 1 (by simp)).trans (by simp [World.cell?_alloc_at])
  go_wp2_with fail
  refine ((HP _).out).mono ?_
  rintro e w2 ⟨rfl, rfl⟩
  have b2 := b1
  go_wp2_with fail
  obtain ⟨p0, p1⟩ := two_cells w1 (w.heap.size + 1) (.bool true) (.int .i64 (-n)) _ _ q0 q1
  refine bodyPost_ret (v := .tuple #[numV true (-n), .int .i64 0]) (by simp [results, Tryd.results12, go_sem, p0, p1]) rfl ⟨rfl, ?_⟩
  exact (Below.setCell (Below.setCell b2.out (p := ⟨w.heap.size + 1, 0, none⟩) (by show w.heap.size ≤ w.heap.size + 1; omega) _) (p := ⟨w.heap.size + 1, 1, none⟩) (by show w.heap.size ≤ w.heap.size + 1; omega) _)

end Go.Proofs.YtpaejoikfnmdhaaDoor
