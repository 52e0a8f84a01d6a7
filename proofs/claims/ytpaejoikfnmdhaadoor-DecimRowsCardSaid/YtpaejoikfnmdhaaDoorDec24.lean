/- Layer 23: the reference's TakeAngle, case by case. -/
import Derived.Test.YtpaejoikfnmdhaaDoorDec23
namespace Go.Proofs.YtpaejoikfnmdhaaDoor
set_option linter.unusedVariables false
open Go.RowKit

set_option maxRecDepth 8000 in
set_option maxHeartbeats 2000000 in
theorem r23TakeAngle_empty (s d : ByteArray) (lat : Bool) (w : World) (h0 : s.size = 0) (h1 : d.size = 0) :
    Calls Tryd.prog 19 #[.string s, .string d, .bool lat] w fun e w' => e = .returned (.tuple #[numV false (0), .int .i64 0]) ∧ Below w.heap.size w w' := by
  obtain rfl : s = ⟨#[]⟩ := ByteArray.ext (Array.eq_empty_of_size_eq_zero h0)
  obtain rfl : d = ⟨#[]⟩ := ByteArray.ext (Array.eq_empty_of_size_eq_zero h1)
  have HK := fun W' => Lib.hid (r23sides_any lat W')
  have HF := fun W' => Lib.hid (r23Far_any lat W')
  generalize sidesB lat = S at *
  cases lat
  all_goals
    unfold farI at HF
    simp at HF
    go_enter Tryd.func19, Tryd.ntmps19
    go_wp2_with fail
    refine bodyPost_ret (v := .tuple #[numV false (0), .int .i64 0]) (by simp [results, Tryd.results19, go_sem, World.cell?_alloc_at]) rfl ⟨rfl, below_new w _⟩

set_option maxRecDepth 8000 in
set_option maxHeartbeats 2000000 in
theorem r23TakeAngle_form (s d : ByteArray) (lat : Bool) (n : Int) (w : World) (h0 : 0 < s.size) (HP : ∀ W', Hid (Calls Tryd.prog 49 #[.string s, .int .i64 (wide2 lat : Int), .int .i64 (wide2 lat : Int), .int .i64 5] W' fun e w' => e = .returned (.tuple #[.int .i64 n, .bool false]) ∧ W' = w')) :
    Calls Tryd.prog 19 #[.string s, .string d, .bool lat] w fun e w' => e = .returned (.tuple #[numV false (0), .int .i64 3]) ∧ Below w.heap.size w w' := by
  obtain ⟨hne1, hne2⟩ := nonempty_forms h0
  have HK := fun W' => Lib.hid (r23sides_any lat W')
  have HF := fun W' => Lib.hid (r23Far_any lat W')
  generalize sidesB lat = S at *
  cases lat
  all_goals
    unfold farI at HF
    simp at HF
    go_enter Tryd.func19, Tryd.ntmps19
    go_wp2_with fail
    refine ((HP _).out).mono ?_
    rintro e w' ⟨rfl, rfl⟩
    go_wp2_with fail
    refine bodyPost_ret (v := .tuple #[numV false (0), .int .i64 3]) (by simp [results, Tryd.results19, go_sem, World.cell?_alloc_at]) rfl ⟨rfl, below_new w _⟩

set_option maxRecDepth 8000 in
set_option maxHeartbeats 2000000 in
theorem r23TakeAngle_forme (s d : ByteArray) (lat : Bool) (n : Int) (w : World) (h0 : s.size = 0) (h1 : 0 < d.size) (HP : ∀ W', Hid (Calls Tryd.prog 49 #[.string s, .int .i64 (wide2 lat : Int), .int .i64 (wide2 lat : Int), .int .i64 5] W' fun e w' => e = .returned (.tuple #[.int .i64 n, .bool false]) ∧ W' = w')) :
    Calls Tryd.prog 19 #[.string s, .string d, .bool lat] w fun e w' => e = .returned (.tuple #[numV false (0), .int .i64 3]) ∧ Below w.heap.size w w' := by
  obtain rfl : s = ⟨#[]⟩ := ByteArray.ext (Array.eq_empty_of_size_eq_zero h0)
  obtain ⟨hne1, hne2⟩ := nonempty_forms h1
  have HK := fun W' => Lib.hid (r23sides_any lat W')
  have HF := fun W' => Lib.hid (r23Far_any lat W')
  generalize sidesB lat = S at *
  cases lat
  all_goals
    unfold farI at HF
    simp at HF
    go_enter Tryd.func19, Tryd.ntmps19
    go_wp2_with fail
    refine ((HP _).out).mono ?_
    rintro e w' ⟨rfl, rfl⟩
    go_wp2_with fail
    refine bodyPost_ret (v := .tuple #[numV false (0), .int .i64 3]) (by simp [results, Tryd.results19, go_sem, World.cell?_alloc_at]) rfl ⟨rfl, below_new w _⟩

set_option maxRecDepth 8000 in
set_option maxHeartbeats 2000000 in
theorem r23TakeAngle_side (s d : ByteArray) (lat : Bool) (n : Int) (w : World) (h0 : 0 < s.size) (HP : ∀ W', Hid (Calls Tryd.prog 49 #[.string s, .int .i64 (wide2 lat : Int), .int .i64 (wide2 lat : Int), .int .i64 5] W' fun e w' => e = .returned (.tuple #[.int .i64 n, .bool true]) ∧ W' = w')) (k1 : (d.toList == ((sidesB lat).extract 0 1).toList) = false) (k2 : (d.toList == ((sidesB lat).extract 1 2).toList) = false) (hn0 : 0 ≤ n) (hn : n ≤ 2000000000000000000) :
    Calls Tryd.prog 19 #[.string s, .string d, .bool lat] w fun e w' => e = .returned (.tuple #[numV false (0), .int .i64 3]) ∧ Below w.heap.size w w' := by
  obtain ⟨hne1, hne2⟩ := nonempty_forms h0
  have hS : (sidesB lat).size = 2 := by cases lat <;> rfl
  have HK := fun W' => Lib.hid (r23sides_any lat W')
  have HF := fun W' => Lib.hid (r23Far_any lat W')
  generalize sidesB lat = S at *
  cases lat
  all_goals
    unfold farI at HF
    simp at HF
    go_enter Tryd.func19, Tryd.ntmps19
    go_wp2_with fail
    refine ((HP _).out).mono ?_
    rintro e w' ⟨rfl, rfl⟩
    go_wp2_with fail
    refine ((HK _).out).mono ?_
    rintro e w' ⟨rfl, rfl⟩
    go_wp2_with fail
    refine ((HK _).out).mono ?_
    rintro e w' ⟨rfl, rfl⟩
    go_wp2_with fail
    refine bodyPost_ret (v := .tuple #[numV false (0), .int .i64 3]) (by simp [results, Tryd.results19, go_sem, World.cell?_alloc_at]) rfl ⟨rfl, below_new w _⟩

set_option maxRecDepth 8000 in
set_option maxHeartbeats 2000000 in
theorem r23TakeAngle_m_N (s d : ByteArray) (lat : Bool) (n : Int) (w : World) (h0 : 0 < s.size) (HP : ∀ W', Hid (Calls Tryd.prog 49 #[.string s, .int .i64 (wide2 lat : Int), .int .i64 (wide2 lat : Int), .int .i64 5] W' fun e w' => e = .returned (.tuple #[.int .i64 n, .bool true]) ∧ W' = w')) (k1 : (d.toList == ((sidesB lat).extract 0 1).toList) = true) (k2 : (d.toList == ((sidesB lat).extract 1 2).toList) = false) (hn0 : 0 ≤ n) (hn : n ≤ 2000000000000000000) (g : 6000000 ≤ n % 10000000) :
    Calls Tryd.prog 19 #[.string s, .string d, .bool lat] w fun e w' => e = .returned (.tuple #[numV false (0), .int .i64 5]) ∧ Below w.heap.size w w' := by
  obtain ⟨hne1, hne2⟩ := nonempty_forms h0
  have hS : (sidesB lat).size = 2 := by cases lat <;> rfl
  have HK := fun W' => Lib.hid (r23sides_any lat W')
  have HF := fun W' => Lib.hid (r23Far_any lat W')
  generalize sidesB lat = S at *
  cases lat
  all_goals
    unfold farI at HF
    simp at HF
    go_enter Tryd.func19, Tryd.ntmps19
    go_wp2_with fail
    refine ((HP _).out).mono ?_
    rintro e w' ⟨rfl, rfl⟩
    go_wp2_with fail
    refine ((HK _).out).mono ?_
    rintro e w' ⟨rfl, rfl⟩
    go_wp2_with fail
    refine bodyPost_ret (v := .tuple #[numV false (0), .int .i64 5]) (by simp [results, Tryd.results19, go_sem, World.cell?_alloc_at]) rfl ⟨rfl, below_new w _⟩

set_option maxRecDepth 8000 in
set_option maxHeartbeats 2000000 in
theorem r23TakeAngle_m_S (s d : ByteArray) (lat : Bool) (n : Int) (w : World) (h0 : 0 < s.size) (HP : ∀ W', Hid (Calls Tryd.prog 49 #[.string s, .int .i64 (wide2 lat : Int), .int .i64 (wide2 lat : Int), .int .i64 5] W' fun e w' => e = .returned (.tuple #[.int .i64 n, .bool true]) ∧ W' = w')) (k1 : (d.toList == ((sidesB lat).extract 0 1).toList) = false) (k2 : (d.toList == ((sidesB lat).extract 1 2).toList) = true) (hn0 : 0 ≤ n) (hn : n ≤ 2000000000000000000) (g : 6000000 ≤ n % 10000000) :
    Calls Tryd.prog 19 #[.string s, .string d, .bool lat] w fun e w' => e = .returned (.tuple #[numV false (0), .int .i64 5]) ∧ Below w.heap.size w w' := by
  obtain ⟨hne1, hne2⟩ := nonempty_forms h0
  have hS : (sidesB lat).size = 2 := by cases lat <;> rfl
  have HK := fun W' => Lib.hid (r23sides_any lat W')
  have HF := fun W' => Lib.hid (r23Far_any lat W')
  generalize sidesB lat = S at *
  cases lat
  all_goals
    unfold farI at HF
    simp at HF
    go_enter Tryd.func19, Tryd.ntmps19
    go_wp2_with fail
    refine ((HP _).out).mono ?_
    rintro e w' ⟨rfl, rfl⟩
    go_wp2_with fail
    refine ((HK _).out).mono ?_
    rintro e w' ⟨rfl, rfl⟩
    go_wp2_with fail
    refine ((HK _).out).mono ?_
    rintro e w' ⟨rfl, rfl⟩
    go_wp2_with fail
    refine bodyPost_ret (v := .tuple #[numV false (0), .int .i64 5]) (by simp [results, Tryd.results19, go_sem, World.cell?_alloc_at]) rfl ⟨rfl, below_new w _⟩

set_option maxRecDepth 8000 in
set_option maxHeartbeats 2000000 in
theorem r23TakeAngle_x_N (s d : ByteArray) (lat : Bool) (n : Int) (w : World) (h0 : 0 < s.size) (HP : ∀ W', Hid (Calls Tryd.prog 49 #[.string s, .int .i64 (wide2 lat : Int), .int .i64 (wide2 lat : Int), .int .i64 5] W' fun e w' => e = .returned (.tuple #[.int .i64 n, .bool true]) ∧ W' = w')) (k1 : (d.toList == ((sidesB lat).extract 0 1).toList) = true) (k2 : (d.toList == ((sidesB lat).extract 1 2).toList) = false) (hn0 : 0 ≤ n) (hn : n ≤ 2000000000000000000) (g : n % 10000000 < 6000000) (g2 : farI lat < n / 10000000 * 6000000 + n % 10000000) :
    Calls Tryd.prog 19 #[.string s, .string d, .bool lat] w fun e w' => e = .returned (.tuple #[numV false (0), .int .i64 5]) ∧ Below w.heap.size w w' := by
  obtain ⟨hne1, hne2⟩ := nonempty_forms h0
  have hS : (sidesB lat).size = 2 := by cases lat <;> rfl
  have HK := fun W' => Lib.hid (r23sides_any lat W')
  have HF := fun W' => Lib.hid (r23Far_any lat W')
  generalize sidesB lat = S at *
  cases lat
  all_goals
    have g2' := g2
    unfold farI at g2'
    simp at g2'
    clear g2
    unfold farI at HF
    simp at HF
    go_enter Tryd.func19, Tryd.ntmps19
    go_wp2_with fail
    refine ((HP _).out).mono ?_
    rintro e w' ⟨rfl, rfl⟩
    go_wp2_with fail
    refine ((HK _).out).mono ?_
    rintro e w' ⟨rfl, rfl⟩
    go_wp2_with fail
    refine ((HF _).out).mono ?_
    rintro e w' ⟨rfl, rfl⟩
    go_wp2_with fail
    refine bodyPost_ret (v := .tuple #[numV false (0), .int .i64 5]) (by simp [results, Tryd.results19, go_sem, World.cell?_alloc_at]) rfl ⟨rfl, below_new w _⟩

set_option maxRecDepth 8000 in
set_option maxHeartbeats 2000000 in
theorem r23TakeAngle_x_S (s d : ByteArray) (lat : Bool) (n : Int) (w : World) (h0 : 0 < s.size) (HP : ∀ W', Hid (Calls Tryd.prog 49 #[.string s, .int .i64 (wide2 lat : Int), .int .i64 (wide2 lat : Int), .int .i64 5] W' fun e w' => e = .returned (.tuple #[.int .i64 n, .bool true]) ∧ W' = w')) (k1 : (d.toList == ((sidesB lat).extract 0 1).toList) = false) (k2 : (d.toList == ((sidesB lat).extract 1 2).toList) = true) (hn0 : 0 ≤ n) (hn : n ≤ 2000000000000000000) (g : n % 10000000 < 6000000) (g2 : farI lat < n / 10000000 * 6000000 + n % 10000000) :
    Calls Tryd.prog 19 #[.string s, .string d, .bool lat] w fun e w' => e = .returned (.tuple #[numV false (0), .int .i64 5]) ∧ Below w.heap.size w w' := by
  obtain ⟨hne1, hne2⟩ := nonempty_forms h0
  have hS : (sidesB lat).size = 2 := by cases lat <;> rfl
  have HK := fun W' => Lib.hid (r23sides_any lat W')
  have HF := fun W' => Lib.hid (r23Far_any lat W')
  generalize sidesB lat = S at *
  cases lat
  all_goals
    have g2' := g2
    unfold farI at g2'
    simp at g2'
    clear g2
    unfold farI at HF
    simp at HF
    go_enter Tryd.func19, Tryd.ntmps19
    go_wp2_with fail
    refine ((HP _).out).mono ?_
    rintro e w' ⟨rfl, rfl⟩
    go_wp2_with fail
    refine ((HK _).out).mono ?_
    rintro e w' ⟨rfl, rfl⟩
    go_wp2_with fail
    refine ((HK _).out).mono ?_
    rintro e w' ⟨rfl, rfl⟩
    go_wp2_with fail
    refine ((HF _).out).mono ?_
    rintro e w' ⟨rfl, rfl⟩
    go_wp2_with fail
    refine bodyPost_ret (v := .tuple #[numV false (0), .int .i64 5]) (by simp [results, Tryd.results19, go_sem, World.cell?_alloc_at]) rfl ⟨rfl, below_new w _⟩

set_option maxRecDepth 8000 in
set_option maxHeartbeats 2000000 in
theorem r23TakeAngle_ok_N (s d : ByteArray) (lat : Bool) (n : Int) (w : World) (h0 : 0 < s.size) (HP : ∀ W', Hid (Calls Tryd.prog 49 #[.string s, .int .i64 (wide2 lat : Int), .int .i64 (wide2 lat : Int), .int .i64 5] W' fun e w' => e = .returned (.tuple #[.int .i64 n, .bool true]) ∧ W' = w')) (k1 : (d.toList == ((sidesB lat).extract 0 1).toList) = true) (k2 : (d.toList == ((sidesB lat).extract 1 2).toList) = false) (hn0 : 0 ≤ n) (hn : n ≤ 2000000000000000000) (g : n % 10000000 < 6000000) (g2 : n / 10000000 * 6000000 + n % 10000000 ≤ farI lat) :
    Calls Tryd.prog 19 #[.string s, .string d, .bool lat] w fun e w' => e = .returned (.tuple #[numV true (n / 10000000 * 6000000 + n % 10000000), .int .i64 0]) ∧ Below w.heap.size w w' := by
  obtain ⟨hne1, hne2⟩ := nonempty_forms h0
  have hS : (sidesB lat).size = 2 := by cases lat <;> rfl
  have HK := fun W' => Lib.hid (r23sides_any lat W')
  have HF := fun W' => Lib.hid (r23Far_any lat W')
  generalize sidesB lat = S at *
  cases lat
  all_goals
    have g2' := g2
    unfold farI at g2'
    simp at g2'
    clear g2
    unfold farI at HF
    simp at HF
    go_enter Tryd.func19, Tryd.ntmps19
    go_wp2_with fail
    refine ((HP _).out).mono ?_
    rintro e w' ⟨rfl, rfl⟩
    go_wp2_with fail
    refine ((HK _).out).mono ?_
    rintro e w' ⟨rfl, rfl⟩
    go_wp2_with fail
    refine ((HF _).out).mono ?_
    rintro e w' ⟨rfl, rfl⟩
    go_wp2_with fail
    refine ((HK _).out).mono ?_
    rintro e w' ⟨rfl, rfl⟩
    go_wp2_with fail
    refine bodyPost_ret (v := .tuple #[numV true (n / 10000000 * 6000000 + n % 10000000), .int .i64 0]) (by simp [results, Tryd.results19, go_sem, World.cell?_alloc_at]) rfl ⟨rfl, below_new w _⟩

set_option maxRecDepth 8000 in
set_option maxHeartbeats 2000000 in
theorem r23TakeAngle_ok_S (s d : ByteArray) (lat : Bool) (n : Int) (w : World) (h0 : 0 < s.size) (HP : ∀ W', Hid (Calls Tryd.prog 49 #[.string s, .int .i64 (wide2 lat : Int), .int .i64 (wide2 lat : Int), .int .i64 5] W' fun e w' => e = .returned (.tuple #[.int .i64 n, .bool true]) ∧ W' = w')) (k1 : (d.toList == ((sidesB lat).extract 0 1).toList) = false) (k2 : (d.toList == ((sidesB lat).extract 1 2).toList) = true) (hn0 : 0 ≤ n) (hn : n ≤ 2000000000000000000) (g : n % 10000000 < 6000000) (g2 : n / 10000000 * 6000000 + n % 10000000 ≤ farI lat) :
    Calls Tryd.prog 19 #[.string s, .string d, .bool lat] w fun e w' => e = .returned (.tuple #[numV true (-(n / 10000000 * 6000000 + n % 10000000)), .int .i64 0]) ∧ Below w.heap.size w w' := by
  obtain ⟨hne1, hne2⟩ := nonempty_forms h0
  have hS : (sidesB lat).size = 2 := by cases lat <;> rfl
  have HK := fun W' => Lib.hid (r23sides_any lat W')
  have HF := fun W' => Lib.hid (r23Far_any lat W')
  generalize sidesB lat = S at *
  cases lat
  all_goals
    have g2' := g2
    unfold farI at g2'
    simp at g2'
    clear g2
    unfold farI at HF
    simp at HF
    go_enter Tryd.func19, Tryd.ntmps19
    go_wp2_with fail
    refine ((HP _).out).mono ?_
    rintro e w' ⟨rfl, rfl⟩
    go_wp2_with fail
    refine ((HK _).out).mono ?_
    rintro e w' ⟨rfl, rfl⟩
    go_wp2_with fail
    refine ((HK _).out).mono ?_
    rintro e w' ⟨rfl, rfl⟩
    go_wp2_with fail
    refine ((HF _).out).mono ?_
    rintro e w' ⟨rfl, rfl⟩
    go_wp2_with fail
    refine ((HK _).out).mono ?_
    rintro e w' ⟨rfl, rfl⟩
    go_wp2_with fail
    refine bodyPost_ret (v := .tuple #[numV true (-(n / 10000000 * 6000000 + n % 10000000)), .int .i64 0]) (by simp [results, Tryd.results19, go_sem, World.cell?_alloc_at]) rfl ⟨rfl, below_new w _⟩

end Go.Proofs.YtpaejoikfnmdhaaDoor
