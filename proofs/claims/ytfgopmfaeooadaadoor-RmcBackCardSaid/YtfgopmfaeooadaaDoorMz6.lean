/- Layer 24: the reference's Put; PutDate of both. Printed by genclke.py. -/
import Derived.Test.YtfgopmfaeooadaaDoorMz5
namespace Go.Proofs.YtfgopmfaeooadaaDoor
set_option linter.unusedVariables false
open Go.RowKit

theorem cat3 (a b c : ByteArray) : a ++ b ++ c = a ++ (b ++ c) := by
  apply ByteArray.ext
  simp
theorem dat_no (b : Bool) (d m y : Int) (w : World) (hb : datB (b, d, m, y) = false) : Calls Tryd.prog 49 #[datV b d m y] w fun e w' => e = .returned (.tuple #[.string ByteArray.empty, .int .i64 5]) ∧ Below w.heap.size w w' := by
  have HM := fun W => Lib.hid (cmayDate_any b d m y W)
  rw [hb] at HM
  go_enter Tryd.func49, Tryd.ntmps49
  go_wp2_with fail
  refine ((HM _).out).mono ?_
  rintro e w1 ⟨rfl, hb1⟩
  go_wp2_with fail
  go_ret2
  exact ⟨rfl, bthen (below_new _ _) hb1⟩
theorem dat_none (w : World) : Calls Tryd.prog 49 #[datV false 0 0 0] w fun e w' => e = .returned (.tuple #[.string ByteArray.empty, .int .i64 0]) ∧ Below w.heap.size w w' := by
  have HM := fun W => Lib.hid (cmayDate_any false 0 0 0 W)
  rw [show datB (false, 0, 0, 0) = true from rfl] at HM
  have HS : Hid ((w.alloc (.cells #[.bool false, .int .i64 0, .int .i64 0, .int .i64 0] 36)).cell? ⟨w.heap.size, 0, none⟩ = some (.bool false)) := World.cell?_alloc_at _ _ _ _ rfl
  go_enter Tryd.func49, Tryd.ntmps49
  go_wp2_with fail
  refine ((HM _).out).mono ?_
  rintro e w1 ⟨rfl, hb1⟩
  have c0 := ((bcell hb1).1 w.heap.size 0 (by simp)).trans HS.out
  go_wp2_with fail
  go_ret2
  exact ⟨rfl, bthen (below_new _ _) hb1⟩
set_option maxRecDepth 8000 in
set_option maxHeartbeats 4000000 in
theorem dat_ok (d m y : Int) (w : World) (hb : datB (true, d, m, y) = true) : Calls Tryd.prog 49 #[datV true d m y] w fun e w' => e = .returned (.tuple #[.string (toB (twoL d ++ twoL m ++ twoL (y - 2000))), .int .i64 0]) ∧ Below w.heap.size w w' := by
  have HM := fun W => Lib.hid (cmayDate_any true d m y W)
  obtain ⟨x1, x2⟩ : 1 ≤ d ∧ d ≤ daysI m y := of_decide_eq_true hb
  have q1 := days_le m y
  obtain ⟨x3, x4, x5, x6⟩ := days_pos (show 1 ≤ daysI m y by omega)
  have x7 : d ≤ 31 := by omega
  rw [hb] at HM
  obtain ⟨X, hX⟩ : ∃ X, toB (twoL d ++ twoL m ++ twoL (y - 2000)) = X := ⟨_, rfl⟩
  rw [hX]
  have HE : Hid (X = toB (twoL d) ++ toB (twoL m) ++ toB (twoL (y - 2000))) := by
    show _ = _
    rw [← hX, toB_app, toB_app]
  have zA : (toB (twoL d)).size = 2 := rfl
  have zB : (toB (twoL m)).size = 2 := rfl
  have zC' : (toB (twoL (y - 2000))).size = 2 := rfl
  have hw : IntKind.i64.wrap (y - 2000) = y - 2000 := IntWalk.i64_in _ (by omega)
  clear hb x2 q1 hX
  have HS : Hid (∀ o, (w.alloc (.cells #[.bool true, .int .i64 d, .int .i64 m, .int .i64 y] 36)).cell? ⟨w.heap.size, o, none⟩ = (#[Value.bool true, .int .i64 d, .int .i64 m, .int .i64 y] : Array Value)[o]?) := fun o => World.cell?_alloc_at _ _ _ _ rfl
  go_enter Tryd.func49, Tryd.ntmps49
  go_wp2_with fail
  refine ((HM _).out).mono ?_
  rintro e w1 ⟨rfl, hb1⟩
  have hz1 : w.heap.size < w1.heap.size := by have := hb1.size; simp at this; omega
  have c0 := ((bcell hb1).1 w.heap.size 0 (by simp)).trans (HS.out 0)
  have HC : Hid (∀ o, w1.cell? ⟨w.heap.size, o, none⟩ = (#[Value.bool true, .int .i64 d, .int .i64 m, .int .i64 y] : Array Value)[o]?) := fun o => ((bcell hb1).1 w.heap.size o (by simp)).trans (HS.out o)
  have HB1 := Lib.hid (bthen (below_new w _) hb1)
  have HZ1 := Lib.hid hz1
  clear hb1 hz1 HS HM
  go_wp2_with fail
  have HS0 : Hid (w1.drew.cell? ⟨w.heap.size, 1, none⟩ = some (.int .i64 d) ∧ w1.drew.cell? ⟨w.heap.size, 2, none⟩ = some (.int .i64 m) ∧ w1.drew.cell? ⟨w.heap.size, 3, none⟩ = some (.int .i64 y) ∧ w1.drew.cell? ⟨w.heap.size, 0, none⟩ = some (.bool true) ∧ Hid (Below w.heap.size w w1.drew) ∧ Hid (w.heap.size < w1.drew.heap.size)) := ⟨HC.out 1, HC.out 2, HC.out 3, HC.out 0, bdrew HB1.out, HZ1.out⟩
  clear c0 HC HB1 HZ1
  go_region_held3 (fun w' => w'.cell? ⟨w.heap.size, 1, none⟩ = some (.int .i64 d) ∧ w'.cell? ⟨w.heap.size, 2, none⟩ = some (.int .i64 m) ∧ w'.cell? ⟨w.heap.size, 3, none⟩ = some (.int .i64 y) ∧ w'.cell? ⟨w.heap.size, 0, none⟩ = some (.bool true) ∧ Hid (Below w.heap.size w w') ∧ Hid (w.heap.size < w'.heap.size)) (first | exact HS0.out | assumption | (refine quadS_below (by assumption) ?_; assumption) | (go_split_ands; refine ⟨?_, ?_, ?_, ?_, ?_, ?_⟩ <;> assumption) | (go_split_ands; refine quadS_below (by assumption) ⟨?_, ?_, ?_, ?_, ?_, ?_⟩ <;> assumption)) ((go_at_call 83; refine (ctwo_any _ _ (by omega) (by omega)).mono ?_; rintro e w9 ⟨rfl, hb9⟩))
  all_goals
    go_split_ands
    rename_i HB9 HZ9
    go_wp2_with fail
    go_ret2
    exact ⟨by rw [HE.out]; rfl, HB9.out⟩
theorem datPut_any (b : Bool) (d m y : Int) (w : World) : Calls Tryd.prog 49 #[datV b d m y] w fun e w' => e = .returned (.tuple #[.string (datT (b, d, m, y)).1, .int .i64 (datT (b, d, m, y)).2]) ∧ Below w.heap.size w w' := by
  unfold datT
  by_cases hb : datB (b, d, m, y) = false
  · rw [if_pos hb]; exact dat_no b d m y w hb
  · rw [if_neg hb]
    have hb : datB (b, d, m, y) = true := by simpa using hb
    cases b with
    | false =>
      obtain ⟨rfl, rfl, rfl⟩ : d = 0 ∧ m = 0 ∧ y = 0 := of_decide_eq_true hb
      rw [if_pos rfl]
      exact dat_none w
    | true =>
      rw [if_neg (by simp)]
      exact dat_ok d m y w hb
end Go.Proofs.YtfgopmfaeooadaaDoor
