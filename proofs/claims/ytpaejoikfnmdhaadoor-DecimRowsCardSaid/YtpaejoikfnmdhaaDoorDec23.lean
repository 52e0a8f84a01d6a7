/- Layer 23: the program's TakeAngle, case by case. -/
import Derived.Test.YtpaejoikfnmdhaaDoorDec22
namespace Go.Proofs.YtpaejoikfnmdhaaDoor
set_option linter.unusedVariables false
open Go.RowKit

def wide2 (lat : Bool) : Nat := if lat then 4 else 5

set_option maxRecDepth 8000 in
set_option maxHeartbeats 2000000 in
theorem TakeAngle_empty (s d : ByteArray) (lat : Bool) (w : World) (h0 : s.size = 0) (h1 : d.size = 0) :
    Calls Tryd.prog 17 #[.string s, .string d, .bool lat] w fun e w' => e = .returned (.tuple #[numV false (0), .int .i64 0]) ∧ Below w.heap.size w w' := by
  obtain rfl : s = ⟨#[]⟩ := ByteArray.ext (Array.eq_empty_of_size_eq_zero h0)
  obtain rfl : d = ⟨#[]⟩ := ByteArray.ext (Array.eq_empty_of_size_eq_zero h1)
  have HK := fun W' => Lib.hid (kind_any lat W')
  generalize sidesB lat = S at *
  cases lat
  all_goals
    go_enter Tryd.func17, Tryd.ntmps17
    go_wp2_with fail
    refine bodyPost_ret (v := .tuple #[numV false (0), .int .i64 0]) (by simp [results, Tryd.results17, go_sem, World.cell?_alloc_at]) rfl ⟨rfl, below_new w _⟩

set_option maxRecDepth 8000 in
set_option maxHeartbeats 2000000 in
theorem TakeAngle_form (s d : ByteArray) (lat : Bool) (n : Int) (w : World) (h0 : 0 < s.size) (HP : ∀ W', Hid (Calls Tryd.prog 48 #[.string s, .int .i64 (wide2 lat : Int), .int .i64 (wide2 lat : Int), .int .i64 5] W' fun e w' => e = .returned (.tuple #[.int .i64 n, .bool false]) ∧ Below W'.heap.size W' w')) :
    Calls Tryd.prog 17 #[.string s, .string d, .bool lat] w fun e w' => e = .returned (.tuple #[numV false (0), .int .i64 3]) ∧ Below w.heap.size w w' := by
  obtain ⟨hne1, hne2⟩ := nonempty_forms h0
  have HK := fun W' => Lib.hid (kind_any lat W')
  generalize sidesB lat = S at *
  cases lat
  all_goals
    go_enter Tryd.func17, Tryd.ntmps17
    have q0 : (w.alloc (.cells #[.bool false, .int .i64 0] 23)).cell? ⟨w.heap.size, 0, none⟩ = some (.bool false) := by simp [World.cell?_alloc_at]
    have q1 : (w.alloc (.cells #[.bool false, .int .i64 0] 23)).cell? ⟨w.heap.size, 1, none⟩ = some (.int .i64 0) := by simp [World.cell?_alloc_at]
    go_wp2_with fail
    refine ((HK _).out).mono ?_
    rintro e w' ⟨rfl, rfl⟩
    go_wp2_with fail
    refine ((HP _).out).mono ?_
    rintro e w2 ⟨rfl, hb2⟩
    obtain ⟨c2, f2⟩ := bcell hb2
    have hz := hb2.size
    simp at hz
    have hz1 : w.heap.size < w2.heap.size := by omega
    have b2 := Lib.hid (bthen (below_new w _) hb2)
    replace q0 := (c2 w.heap.size 0 (by simp)).trans q0
    replace q1 := (c2 w.heap.size 1 (by simp)).trans q1
    go_wp2_with fail
    obtain ⟨p0, p1⟩ := two_cells w2 w.heap.size (.bool false) (.int .i64 (0)) _ _ q0 q1
    refine bodyPost_ret (v := .tuple #[numV false (0), .int .i64 3]) (by simp [results, Tryd.results17, go_sem, p0, p1]) rfl ⟨rfl, ?_⟩
    exact (Below.setCell (Below.setCell b2.out (p := ⟨w.heap.size, 0, none⟩) (Nat.le_refl _) _) (p := ⟨w.heap.size, 1, none⟩) (Nat.le_refl _) _)

set_option maxRecDepth 8000 in
set_option maxHeartbeats 2000000 in
theorem TakeAngle_forme (s d : ByteArray) (lat : Bool) (n : Int) (w : World) (h0 : s.size = 0) (h1 : 0 < d.size) (HP : ∀ W', Hid (Calls Tryd.prog 48 #[.string s, .int .i64 (wide2 lat : Int), .int .i64 (wide2 lat : Int), .int .i64 5] W' fun e w' => e = .returned (.tuple #[.int .i64 n, .bool false]) ∧ Below W'.heap.size W' w')) :
    Calls Tryd.prog 17 #[.string s, .string d, .bool lat] w fun e w' => e = .returned (.tuple #[numV false (0), .int .i64 3]) ∧ Below w.heap.size w w' := by
  obtain rfl : s = ⟨#[]⟩ := ByteArray.ext (Array.eq_empty_of_size_eq_zero h0)
  obtain ⟨hne1, hne2⟩ := nonempty_forms h1
  have HK := fun W' => Lib.hid (kind_any lat W')
  generalize sidesB lat = S at *
  cases lat
  all_goals
    go_enter Tryd.func17, Tryd.ntmps17
    have q0 : (w.alloc (.cells #[.bool false, .int .i64 0] 23)).cell? ⟨w.heap.size, 0, none⟩ = some (.bool false) := by simp [World.cell?_alloc_at]
    have q1 : (w.alloc (.cells #[.bool false, .int .i64 0] 23)).cell? ⟨w.heap.size, 1, none⟩ = some (.int .i64 0) := by simp [World.cell?_alloc_at]
    go_wp2_with fail
    refine ((HK _).out).mono ?_
    rintro e w' ⟨rfl, rfl⟩
    go_wp2_with fail
    refine ((HP _).out).mono ?_
    rintro e w2 ⟨rfl, hb2⟩
    obtain ⟨c2, f2⟩ := bcell hb2
    have hz := hb2.size
    simp at hz
    have hz1 : w.heap.size < w2.heap.size := by omega
    have b2 := Lib.hid (bthen (below_new w _) hb2)
    replace q0 := (c2 w.heap.size 0 (by simp)).trans q0
    replace q1 := (c2 w.heap.size 1 (by simp)).trans q1
    go_wp2_with fail
    obtain ⟨p0, p1⟩ := two_cells w2 w.heap.size (.bool false) (.int .i64 (0)) _ _ q0 q1
    refine bodyPost_ret (v := .tuple #[numV false (0), .int .i64 3]) (by simp [results, Tryd.results17, go_sem, p0, p1]) rfl ⟨rfl, ?_⟩
    exact (Below.setCell (Below.setCell b2.out (p := ⟨w.heap.size, 0, none⟩) (Nat.le_refl _) _) (p := ⟨w.heap.size, 1, none⟩) (Nat.le_refl _) _)

set_option maxRecDepth 8000 in
set_option maxHeartbeats 2000000 in
theorem TakeAngle_side (s d : ByteArray) (lat : Bool) (n : Int) (w : World) (h0 : 0 < s.size) (HP : ∀ W', Hid (Calls Tryd.prog 48 #[.string s, .int .i64 (wide2 lat : Int), .int .i64 (wide2 lat : Int), .int .i64 5] W' fun e w' => e = .returned (.tuple #[.int .i64 n, .bool true]) ∧ Below W'.heap.size W' w')) (k1 : (d.toList == ((sidesB lat).extract 0 1).toList) = false) (k2 : (d.toList == ((sidesB lat).extract 1 2).toList) = false) (hn0 : 0 ≤ n) (hn : n ≤ 2000000000000000000) :
    Calls Tryd.prog 17 #[.string s, .string d, .bool lat] w fun e w' => e = .returned (.tuple #[numV false (0), .int .i64 3]) ∧ Below w.heap.size w w' := by
  obtain ⟨hne1, hne2⟩ := nonempty_forms h0
  have hS : (sidesB lat).size = 2 := by cases lat <;> rfl
  have HK := fun W' => Lib.hid (kind_any lat W')
  generalize sidesB lat = S at *
  cases lat
  all_goals
    go_enter Tryd.func17, Tryd.ntmps17
    have q0 : (w.alloc (.cells #[.bool false, .int .i64 0] 23)).cell? ⟨w.heap.size, 0, none⟩ = some (.bool false) := by simp [World.cell?_alloc_at]
    have q1 : (w.alloc (.cells #[.bool false, .int .i64 0] 23)).cell? ⟨w.heap.size, 1, none⟩ = some (.int .i64 0) := by simp [World.cell?_alloc_at]
    go_wp2_with fail
    refine ((HK _).out).mono ?_
    rintro e w' ⟨rfl, rfl⟩
    go_wp2_with fail
    refine ((HP _).out).mono ?_
    rintro e w2 ⟨rfl, hb2⟩
    obtain ⟨c2, f2⟩ := bcell hb2
    have hz := hb2.size
    simp at hz
    have hz1 : w.heap.size < w2.heap.size := by omega
    have b2 := Lib.hid (bthen (below_new w _) hb2)
    replace q0 := (c2 w.heap.size 0 (by simp)).trans q0
    replace q1 := (c2 w.heap.size 1 (by simp)).trans q1
    go_wp2_with fail
    obtain ⟨p0, p1⟩ := two_cells w2 w.heap.size (.bool false) (.int .i64 (0)) _ _ q0 q1
    refine bodyPost_ret (v := .tuple #[numV false (0), .int .i64 3]) (by simp [results, Tryd.results17, go_sem, p0, p1]) rfl ⟨rfl, ?_⟩
    exact (Below.setCell (Below.setCell b2.out (p := ⟨w.heap.size, 0, none⟩) (Nat.le_refl _) _) (p := ⟨w.heap.size, 1, none⟩) (Nat.le_refl _) _)

set_option maxRecDepth 8000 in
set_option maxHeartbeats 2000000 in
theorem TakeAngle_m_N (s d : ByteArray) (lat : Bool) (n : Int) (w : World) (h0 : 0 < s.size) (HP : ∀ W', Hid (Calls Tryd.prog 48 #[.string s, .int .i64 (wide2 lat : Int), .int .i64 (wide2 lat : Int), .int .i64 5] W' fun e w' => e = .returned (.tuple #[.int .i64 n, .bool true]) ∧ Below W'.heap.size W' w')) (k1 : (d.toList == ((sidesB lat).extract 0 1).toList) = true) (k2 : (d.toList == ((sidesB lat).extract 1 2).toList) = false) (hn0 : 0 ≤ n) (hn : n ≤ 2000000000000000000) (g : 6000000 ≤ n % 10000000) :
    Calls Tryd.prog 17 #[.string s, .string d, .bool lat] w fun e w' => e = .returned (.tuple #[numV false (0), .int .i64 5]) ∧ Below w.heap.size w w' := by
  obtain ⟨hne1, hne2⟩ := nonempty_forms h0
  have hS : (sidesB lat).size = 2 := by cases lat <;> rfl
  have HK := fun W' => Lib.hid (kind_any lat W')
  generalize sidesB lat = S at *
  cases lat
  all_goals
    go_enter Tryd.func17, Tryd.ntmps17
    have q0 : (w.alloc (.cells #[.bool false, .int .i64 0] 23)).cell? ⟨w.heap.size, 0, none⟩ = some (.bool false) := by simp [World.cell?_alloc_at]
    have q1 : (w.alloc (.cells #[.bool false, .int .i64 0] 23)).cell? ⟨w.heap.size, 1, none⟩ = some (.int .i64 0) := by simp [World.cell?_alloc_at]
    go_wp2_with fail
    refine ((HK _).out).mono ?_
    rintro e w' ⟨rfl, rfl⟩
    go_wp2_with fail
    refine ((HP _).out).mono ?_
    rintro e w2 ⟨rfl, hb2⟩
    obtain ⟨c2, f2⟩ := bcell hb2
    have hz := hb2.size
    simp at hz
    have hz1 : w.heap.size < w2.heap.size := by omega
    have b2 := Lib.hid (bthen (below_new w _) hb2)
    replace q0 := (c2 w.heap.size 0 (by simp)).trans q0
    replace q1 := (c2 w.heap.size 1 (by simp)).trans q1
    go_wp2_with fail
    obtain ⟨p0, p1⟩ := two_cells w2 w.heap.size (.bool false) (.int .i64 (0)) _ _ q0 q1
    refine bodyPost_ret (v := .tuple #[numV false (0), .int .i64 5]) (by simp [results, Tryd.results17, go_sem, p0, p1]) rfl ⟨rfl, ?_⟩
    exact (Below.setCell (Below.setCell b2.out (p := ⟨w.heap.size, 0, none⟩) (Nat.le_refl _) _) (p := ⟨w.heap.size, 1, none⟩) (Nat.le_refl _) _)

set_option maxRecDepth 8000 in
set_option maxHeartbeats 2000000 in
theorem TakeAngle_m_S (s d : ByteArray) (lat : Bool) (n : Int) (w : World) (h0 : 0 < s.size) (HP : ∀ W', Hid (Calls Tryd.prog 48 #[.string s, .int .i64 (wide2 lat : Int), .int .i64 (wide2 lat : Int), .int .i64 5] W' fun e w' => e = .returned (.tuple #[.int .i64 n, .bool true]) ∧ Below W'.heap.size W' w')) (k1 : (d.toList == ((sidesB lat).extract 0 1).toList) = false) (k2 : (d.toList == ((sidesB lat).extract 1 2).toList) = true) (hn0 : 0 ≤ n) (hn : n ≤ 2000000000000000000) (g : 6000000 ≤ n % 10000000) :
    Calls Tryd.prog 17 #[.string s, .string d, .bool lat] w fun e w' => e = .returned (.tuple #[numV false (0), .int .i64 5]) ∧ Below w.heap.size w w' := by
  obtain ⟨hne1, hne2⟩ := nonempty_forms h0
  have hS : (sidesB lat).size = 2 := by cases lat <;> rfl
  have HK := fun W' => Lib.hid (kind_any lat W')
  generalize sidesB lat = S at *
  cases lat
  all_goals
    go_enter Tryd.func17, Tryd.ntmps17
    have q0 : (w.alloc (.cells #[.bool false, .int .i64 0] 23)).cell? ⟨w.heap.size, 0, none⟩ = some (.bool false) := by simp [World.cell?_alloc_at]
    have q1 : (w.alloc (.cells #[.bool false, .int .i64 0] 23)).cell? ⟨w.heap.size, 1, none⟩ = some (.int .i64 0) := by simp [World.cell?_alloc_at]
    go_wp2_with fail
    refine ((HK _).out).mono ?_
    rintro e w' ⟨rfl, rfl⟩
    go_wp2_with fail
    refine ((HP _).out).mono ?_
    rintro e w2 ⟨rfl, hb2⟩
    obtain ⟨c2, f2⟩ := bcell hb2
    have hz := hb2.size
    simp at hz
    have hz1 : w.heap.size < w2.heap.size := by omega
    have b2 := Lib.hid (bthen (below_new w _) hb2)
    replace q0 := (c2 w.heap.size 0 (by simp)).trans q0
    replace q1 := (c2 w.heap.size 1 (by simp)).trans q1
    go_wp2_with fail
    obtain ⟨p0, p1⟩ := two_cells w2 w.heap.size (.bool false) (.int .i64 (0)) _ _ q0 q1
    refine bodyPost_ret (v := .tuple #[numV false (0), .int .i64 5]) (by simp [results, Tryd.results17, go_sem, p0, p1]) rfl ⟨rfl, ?_⟩
    exact (Below.setCell (Below.setCell b2.out (p := ⟨w.heap.size, 0, none⟩) (Nat.le_refl _) _) (p := ⟨w.heap.size, 1, none⟩) (Nat.le_refl _) _)

set_option maxRecDepth 8000 in
set_option maxHeartbeats 2000000 in
theorem TakeAngle_x_N (s d : ByteArray) (lat : Bool) (n : Int) (w : World) (h0 : 0 < s.size) (HP : ∀ W', Hid (Calls Tryd.prog 48 #[.string s, .int .i64 (wide2 lat : Int), .int .i64 (wide2 lat : Int), .int .i64 5] W' fun e w' => e = .returned (.tuple #[.int .i64 n, .bool true]) ∧ Below W'.heap.size W' w')) (k1 : (d.toList == ((sidesB lat).extract 0 1).toList) = true) (k2 : (d.toList == ((sidesB lat).extract 1 2).toList) = false) (hn0 : 0 ≤ n) (hn : n ≤ 2000000000000000000) (g : n % 10000000 < 6000000) (g2 : farI lat < n / 10000000 * 6000000 + n % 10000000) :
    Calls Tryd.prog 17 #[.string s, .string d, .bool lat] w fun e w' => e = .returned (.tuple #[numV false (0), .int .i64 5]) ∧ Below w.heap.size w w' := by
  obtain ⟨hne1, hne2⟩ := nonempty_forms h0
  have hS : (sidesB lat).size = 2 := by cases lat <;> rfl
  have HK := fun W' => Lib.hid (kind_any lat W')
  generalize sidesB lat = S at *
  cases lat
  all_goals
    have g2' := g2
    unfold farI at g2'
    simp at g2'
    clear g2
    go_enter Tryd.func17, Tryd.ntmps17
    have q0 : (w.alloc (.cells #[.bool false, .int .i64 0] 23)).cell? ⟨w.heap.size, 0, none⟩ = some (.bool false) := by simp [World.cell?_alloc_at]
    have q1 : (w.alloc (.cells #[.bool false, .int .i64 0] 23)).cell? ⟨w.heap.size, 1, none⟩ = some (.int .i64 0) := by simp [World.cell?_alloc_at]
    go_wp2_with fail
    refine ((HK _).out).mono ?_
    rintro e w' ⟨rfl, rfl⟩
    go_wp2_with fail
    refine ((HP _).out).mono ?_
    rintro e w2 ⟨rfl, hb2⟩
    obtain ⟨c2, f2⟩ := bcell hb2
    have hz := hb2.size
    simp at hz
    have hz1 : w.heap.size < w2.heap.size := by omega
    have b2 := Lib.hid (bthen (below_new w _) hb2)
    replace q0 := (c2 w.heap.size 0 (by simp)).trans q0
    replace q1 := (c2 w.heap.size 1 (by simp)).trans q1
    go_wp2_with fail
    obtain ⟨p0, p1⟩ := two_cells w2 w.heap.size (.bool false) (.int .i64 (0)) _ _ q0 q1
    refine bodyPost_ret (v := .tuple #[numV false (0), .int .i64 5]) (by simp [results, Tryd.results17, go_sem, p0, p1]) rfl ⟨rfl, ?_⟩
    exact (Below.setCell (Below.setCell b2.out (p := ⟨w.heap.size, 0, none⟩) (Nat.le_refl _) _) (p := ⟨w.heap.size, 1, none⟩) (Nat.le_refl _) _)

set_option maxRecDepth 8000 in
set_option maxHeartbeats 2000000 in
theorem TakeAngle_x_S (s d : ByteArray) (lat : Bool) (n : Int) (w : World) (h0 : 0 < s.size) (HP : ∀ W', Hid (Calls Tryd.prog 48 #[.string s, .int .i64 (wide2 lat : Int), .int .i64 (wide2 lat : Int), .int .i64 5] W' fun e w' => e = .returned (.tuple #[.int .i64 n, .bool true]) ∧ Below W'.heap.size W' w')) (k1 : (d.toList == ((sidesB lat).extract 0 1).toList) = false) (k2 : (d.toList == ((sidesB lat).extract 1 2).toList) = true) (hn0 : 0 ≤ n) (hn : n ≤ 2000000000000000000) (g : n % 10000000 < 6000000) (g2 : farI lat < n / 10000000 * 6000000 + n % 10000000) :
    Calls Tryd.prog 17 #[.string s, .string d, .bool lat] w fun e w' => e = .returned (.tuple #[numV false (0), .int .i64 5]) ∧ Below w.heap.size w w' := by
  obtain ⟨hne1, hne2⟩ := nonempty_forms h0
  have hS : (sidesB lat).size = 2 := by cases lat <;> rfl
  have HK := fun W' => Lib.hid (kind_any lat W')
  generalize sidesB lat = S at *
  cases lat
  all_goals
    have g2' := g2
    unfold farI at g2'
    simp at g2'
    clear g2
    go_enter Tryd.func17, Tryd.ntmps17
    have q0 : (w.alloc (.cells #[.bool false, .int .i64 0] 23)).cell? ⟨w.heap.size, 0, none⟩ = some (.bool false) := by simp [World.cell?_alloc_at]
    have q1 : (w.alloc (.cells #[.bool false, .int .i64 0] 23)).cell? ⟨w.heap.size, 1, none⟩ = some (.int .i64 0) := by simp [World.cell?_alloc_at]
    go_wp2_with fail
    refine ((HK _).out).mono ?_
    rintro e w' ⟨rfl, rfl⟩
    go_wp2_with fail
    refine ((HP _).out).mono ?_
    rintro e w2 ⟨rfl, hb2⟩
    obtain ⟨c2, f2⟩ := bcell hb2
    have hz := hb2.size
    simp at hz
    have hz1 : w.heap.size < w2.heap.size := by omega
    have b2 := Lib.hid (bthen (below_new w _) hb2)
    replace q0 := (c2 w.heap.size 0 (by simp)).trans q0
    replace q1 := (c2 w.heap.size 1 (by simp)).trans q1
    go_wp2_with fail
    obtain ⟨p0, p1⟩ := two_cells w2 w.heap.size (.bool false) (.int .i64 (0)) _ _ q0 q1
    refine bodyPost_ret (v := .tuple #[numV false (0), .int .i64 5]) (by simp [results, Tryd.results17, go_sem, p0, p1]) rfl ⟨rfl, ?_⟩
    exact (Below.setCell (Below.setCell b2.out (p := ⟨w.heap.size, 0, none⟩) (Nat.le_refl _) _) (p := ⟨w.heap.size, 1, none⟩) (Nat.le_refl _) _)

set_option maxRecDepth 8000 in
set_option maxHeartbeats 2000000 in
theorem TakeAngle_ok_N (s d : ByteArray) (lat : Bool) (n : Int) (w : World) (h0 : 0 < s.size) (HP : ∀ W', Hid (Calls Tryd.prog 48 #[.string s, .int .i64 (wide2 lat : Int), .int .i64 (wide2 lat : Int), .int .i64 5] W' fun e w' => e = .returned (.tuple #[.int .i64 n, .bool true]) ∧ Below W'.heap.size W' w')) (k1 : (d.toList == ((sidesB lat).extract 0 1).toList) = true) (k2 : (d.toList == ((sidesB lat).extract 1 2).toList) = false) (hn0 : 0 ≤ n) (hn : n ≤ 2000000000000000000) (g : n % 10000000 < 6000000) (g2 : n / 10000000 * 6000000 + n % 10000000 ≤ farI lat) :
    Calls Tryd.prog 17 #[.string s, .string d, .bool lat] w fun e w' => e = .returned (.tuple #[numV true (n / 10000000 * 6000000 + n % 10000000), .int .i64 0]) ∧ Below w.heap.size w w' := by
  obtain ⟨hne1, hne2⟩ := nonempty_forms h0
  have hS : (sidesB lat).size = 2 := by cases lat <;> rfl
  have HK := fun W' => Lib.hid (kind_any lat W')
  generalize sidesB lat = S at *
  cases lat
  all_goals
    have g2' := g2
    unfold farI at g2'
    simp at g2'
    clear g2
    go_enter Tryd.func17, Tryd.ntmps17
    have q0 : (w.alloc (.cells #[.bool false, .int .i64 0] 23)).cell? ⟨w.heap.size, 0, none⟩ = some (.bool false) := by simp [World.cell?_alloc_at]
    have q1 : (w.alloc (.cells #[.bool false, .int .i64 0] 23)).cell? ⟨w.heap.size, 1, none⟩ = some (.int .i64 0) := by simp [World.cell?_alloc_at]
    go_wp2_with fail
    refine ((HK _).out).mono ?_
    rintro e w' ⟨rfl, rfl⟩
    go_wp2_with fail
    refine ((HP _).out).mono ?_
    rintro e w2 ⟨rfl, hb2⟩
    obtain ⟨c2, f2⟩ := bcell hb2
    have hz := hb2.size
    simp at hz
    have hz1 : w.heap.size < w2.heap.size := by omega
    have b2 := Lib.hid (bthen (below_new w _) hb2)
    replace q0 := (c2 w.heap.size 0 (by simp)).trans q0
    replace q1 := (c2 w.heap.size 1 (by simp)).trans q1
    go_wp2_with fail
    obtain ⟨p0, p1⟩ := two_cells w2 w.heap.size (.bool true) (.int .i64 (n / 10000000 * 6000000 + n % 10000000)) _ _ q0 q1
    refine bodyPost_ret (v := .tuple #[numV true (n / 10000000 * 6000000 + n % 10000000), .int .i64 0]) (by simp [results, Tryd.results17, go_sem, p0, p1]) rfl ⟨rfl, ?_⟩
    exact (Below.setCell (Below.setCell b2.out (p := ⟨w.heap.size, 0, none⟩) (Nat.le_refl _) _) (p := ⟨w.heap.size, 1, none⟩) (Nat.le_refl _) _)

set_option maxRecDepth 8000 in
set_option maxHeartbeats 2000000 in
theorem TakeAngle_ok_S (s d : ByteArray) (lat : Bool) (n : Int) (w : World) (h0 : 0 < s.size) (HP : ∀ W', Hid (Calls Tryd.prog 48 #[.string s, .int .i64 (wide2 lat : Int), .int .i64 (wide2 lat : Int), .int .i64 5] W' fun e w' => e = .returned (.tuple #[.int .i64 n, .bool true]) ∧ Below W'.heap.size W' w')) (k1 : (d.toList == ((sidesB lat).extract 0 1).toList) = false) (k2 : (d.toList == ((sidesB lat).extract 1 2).toList) = true) (hn0 : 0 ≤ n) (hn : n ≤ 2000000000000000000) (g : n % 10000000 < 6000000) (g2 : n / 10000000 * 6000000 + n % 10000000 ≤ farI lat) :
    Calls Tryd.prog 17 #[.string s, .string d, .bool lat] w fun e w' => e = .returned (.tuple #[numV true (-(n / 10000000 * 6000000 + n % 10000000)), .int .i64 0]) ∧ Below w.heap.size w w' := by
  obtain ⟨hne1, hne2⟩ := nonempty_forms h0
  have hS : (sidesB lat).size = 2 := by cases lat <;> rfl
  have HK := fun W' => Lib.hid (kind_any lat W')
  generalize sidesB lat = S at *
  cases lat
  all_goals
    have g2' := g2
    unfold farI at g2'
    simp at g2'
    clear g2
    go_enter Tryd.func17, Tryd.ntmps17
    have q0 : (w.alloc (.cells #[.bool false, .int .i64 0] 23)).cell? ⟨w.heap.size, 0, none⟩ = some (.bool false) := by simp [World.cell?_alloc_at]
    have q1 : (w.alloc (.cells #[.bool false, .int .i64 0] 23)).cell? ⟨w.heap.size, 1, none⟩ = some (.int .i64 0) := by simp [World.cell?_alloc_at]
    go_wp2_with fail
    refine ((HK _).out).mono ?_
    rintro e w' ⟨rfl, rfl⟩
    go_wp2_with fail
    refine ((HP _).out).mono ?_
    rintro e w2 ⟨rfl, hb2⟩
    obtain ⟨c2, f2⟩ := bcell hb2
    have hz := hb2.size
    simp at hz
    have hz1 : w.heap.size < w2.heap.size := by omega
    have b2 := Lib.hid (bthen (below_new w _) hb2)
    replace q0 := (c2 w.heap.size 0 (by simp)).trans q0
    replace q1 := (c2 w.heap.size 1 (by simp)).trans q1
    go_wp2_with fail
    obtain ⟨p0, p1⟩ := two_cells w2 w.heap.size (.bool true) (.int .i64 (-(n / 10000000 * 6000000 + n % 10000000))) _ _ q0 q1
    refine bodyPost_ret (v := .tuple #[numV true (-(n / 10000000 * 6000000 + n % 10000000)), .int .i64 0]) (by simp [results, Tryd.results17, go_sem, p0, p1]) rfl ⟨rfl, ?_⟩
    exact (Below.setCell (Below.setCell b2.out (p := ⟨w.heap.size, 0, none⟩) (Nat.le_refl _) _) (p := ⟨w.heap.size, 1, none⟩) (Nat.le_refl _) _)

end Go.Proofs.YtpaejoikfnmdhaaDoor
