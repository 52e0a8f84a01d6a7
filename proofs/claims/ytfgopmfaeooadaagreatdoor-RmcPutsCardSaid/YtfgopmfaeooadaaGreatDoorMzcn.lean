/- Layer 24: clock.years. -/
import Derived.Test.YtfgopmfaeooadaaGreatDoorMz2
import Derived.Test.YtfgopmfaeooadaaGreatDoorMzl
import Derived.Test.YtfgopmfaeooadaaGreatDoorMzf
import Derived.BigQuiet
import Derived.IntWalk
namespace Go.Proofs.YtfgopmfaeooadaaGreatDoor
set_option linter.unusedVariables false
open Go.RowKit

theorem cyears_any (n : Int) (w : World) (h0 : 0 ≤ n) (h9 : n ≤ 99) : Calls Tryz.prog 96 #[.int .i64 n] w fun e w' => e = .returned (.int .i64 (yearsI n)) ∧ w = w' := by
  have w1 : IntKind.i64.wrap (365 * n) = 365 * n := IntWalk.i64_in _ (by omega)
  have w2 : IntKind.i64.wrap (n + 3) = n + 3 := IntWalk.i64_in _ (by omega)
  have w3 : (n + 3).tdiv 4 = (n + 3) / 4 := Int.tdiv_eq_ediv_of_nonneg (by omega)
  have w4 : IntKind.i64.wrap ((n + 3) / 4) = (n + 3) / 4 := IntWalk.i64_in _ (by omega)
  have w5 : IntKind.i64.wrap (365 * n + (n + 3) / 4) = 365 * n + (n + 3) / 4 := IntWalk.i64_in _ (by omega)
  clear h0 h9
  go_enter Tryz.func96, Tryz.ntmps96
  go_wp2
  go_ret
  exact ⟨rfl, rfl⟩
theorem cCount_no (db : Bool) (dd dm dy : Int) (cb : Bool) (ch cm cs cc : Int) (w : World) (h : db = false ∨ db = true ∧ cb = false ∨ db = true ∧ cb = true ∧ datB (db, dd, dm, dy) = false ∨ db = true ∧ cb = true ∧ datB (db, dd, dm, dy) = true ∧ clkB (cb, ch, cm, cs, cc) = false) :
    Calls Tryz.prog 70 #[datV db dd dm dy, clkV cb ch cm cs cc] w fun e w' => e = .returned (.tuple #[.int .i64 0, .bool false]) ∧ Below w.heap.size w w' := by
  have HD := fun W => Lib.hid (cmayDate_any db dd dm dy W)
  have HC := fun W => Lib.hid (cmay_any cb ch cm cs cc W)
  have HS1 : Hid (∀ o, ((w.alloc (datO db dd dm dy)).alloc (clkO cb ch cm cs cc)).cell? ⟨w.heap.size, o, none⟩ = (#[Value.bool db, .int .i64 dd, .int .i64 dm, .int .i64 dy] : Array Value)[o]?) := fun o => (World.cell?_alloc_past _ _ _ (by simp)).trans (World.cell?_alloc_at _ _ _ _ rfl)
  have HS2 : Hid (∀ o, ((w.alloc (datO db dd dm dy)).alloc (clkO cb ch cm cs cc)).cell? ⟨w.heap.size + 1, o, none⟩ = (#[Value.bool cb, .int .i64 ch, .int .i64 cm, .int .i64 cs, .int .i64 cc] : Array Value)[o]?) := fun o => World.cell?_alloc_at _ _ _ _ (by simp)
  have HB0 : Hid (Below w.heap.size w ((w.alloc (datO db dd dm dy)).alloc (clkO cb ch cm cs cc))) := bthen (below_new _ _) (below_new _ _)
  have HZ0 : Hid (((w.alloc (datO db dd dm dy)).alloc (clkO cb ch cm cs cc)).heap.size = w.heap.size + 2) := by show _ = _; simp
  rcases h with rfl | ⟨rfl, rfl⟩ | ⟨rfl, rfl, h⟩ | ⟨rfl, rfl, h, h2⟩
  · go_enter Tryz.func70, Tryz.ntmps70
    go_upto_region 1 with fail
    generalize hW0 : (w.alloc (datO false dd dm dy)).alloc (clkO cb ch cm cs cc) = W0 at *
    clear hW0
    have d0 := HS1.out 0
    have d1 := HS1.out 1
    have d2 := HS1.out 2
    have d3 := HS1.out 3
    have c0 := HS2.out 0
    go_wp2_with fail
    go_ret2
    exact ⟨rfl, HB0.out⟩
  · go_enter Tryz.func70, Tryz.ntmps70
    go_upto_region 1 with fail
    generalize hW0 : (w.alloc (datO true dd dm dy)).alloc (clkO false ch cm cs cc) = W0 at *
    clear hW0
    have d0 := HS1.out 0
    have d1 := HS1.out 1
    have d2 := HS1.out 2
    have d3 := HS1.out 3
    have c0 := HS2.out 0
    go_wp2_with fail
    go_ret2
    exact ⟨rfl, HB0.out⟩
  · rw [h] at HD
    clear h
    go_enter Tryz.func70, Tryz.ntmps70
    go_upto_region 1 with fail
    generalize hW0 : (w.alloc (datO true dd dm dy)).alloc (clkO true ch cm cs cc) = W0 at *
    clear hW0
    have d0 := HS1.out 0
    have d1 := HS1.out 1
    have d2 := HS1.out 2
    have d3 := HS1.out 3
    have c0 := HS2.out 0
    go_wp2_with fail
    refine (HD _).out.mono ?_
    rintro r w1 ⟨rfl, hb1⟩
    have HB1 := Lib.hid (bthen HB0.out hb1)
    clear hb1
    go_wp2_with fail
    go_ret2
    exact ⟨rfl, HB1.out⟩
  · rw [h] at HD
    rw [h2] at HC
    clear h h2
    go_enter Tryz.func70, Tryz.ntmps70
    go_upto_region 1 with fail
    generalize hW0 : (w.alloc (datO true dd dm dy)).alloc (clkO true ch cm cs cc) = W0 at *
    clear hW0
    have d0 := HS1.out 0
    have d1 := HS1.out 1
    have d2 := HS1.out 2
    have d3 := HS1.out 3
    have c0 := HS2.out 0
    go_wp2_with fail
    refine (HD _).out.mono ?_
    rintro r w1 ⟨rfl, hb1⟩
    have HB1 := Lib.hid (bthen HB0.out hb1)
    have k0 := ((bcell hb1).1 (w.heap.size + 1) 0 (by have := HZ0.out; omega)).trans (HS2.out 0)
    have k1 := ((bcell hb1).1 (w.heap.size + 1) 1 (by have := HZ0.out; omega)).trans (HS2.out 1)
    have k2 := ((bcell hb1).1 (w.heap.size + 1) 2 (by have := HZ0.out; omega)).trans (HS2.out 2)
    have k3 := ((bcell hb1).1 (w.heap.size + 1) 3 (by have := HZ0.out; omega)).trans (HS2.out 3)
    have k4 := ((bcell hb1).1 (w.heap.size + 1) 4 (by have := HZ0.out; omega)).trans (HS2.out 4)
    clear hb1 d0 d1 d2 d3 c0
    go_wp2_with fail
    refine (HC _).out.mono ?_
    rintro r w2 ⟨rfl, hb2⟩
    have HB2 := Lib.hid (bthen HB1.out hb2)
    clear hb2
    go_wp2_with fail
    go_ret2
    exact ⟨rfl, HB2.out⟩
end Go.Proofs.YtfgopmfaeooadaaGreatDoor
