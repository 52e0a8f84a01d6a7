/- Layers 24, 26: Count and When, of the program and of the reference. Printed by gencnta.py. -/
import Derived.Test.YtfgopmfaeooadaaGreatDoorMzcn
import Derived.Test.YtfgopmfaeooadaaGreatDoorMz5
import Derived.Test.YtfgopmfaeooadaaGreatDoorMzp
import Derived.Deep.RegionHeld3
import Derived.Deep.MidRow
namespace Go.Proofs.YtfgopmfaeooadaaGreatDoor
set_option linter.unusedVariables false
open Go.RowKit

theorem datB_true {d m y : Int} (q : datB (true, d, m, y) = true) : 1 ≤ d ∧ d ≤ 31 ∧ 1 ≤ m ∧ m ≤ 12 ∧ 2000 ≤ y ∧ y ≤ 2099 := by
  have q : 1 ≤ d ∧ d ≤ daysI m y := of_decide_eq_true q
  unfold daysI leapI at q
  split at q
  · omega
  · split at q
    · split at q <;> omega
    · split at q <;> omega
theorem table_in {m : Int} : 0 ≤ tableI m ∧ tableI m ≤ 365 := by
  by_cases h : 1 ≤ m ∧ m ≤ 12
  · obtain ⟨h1, h2⟩ := h
    rcases (by omega : m = 1 ∨ m = 2 ∨ m = 3 ∨ m = 4 ∨ m = 5 ∨ m = 6 ∨ m = 7 ∨ m = 8 ∨ m = 9 ∨ m = 10 ∨ m = 11 ∨ m = 12) with rfl | rfl | rfl | rfl | rfl | rfl | rfl | rfl | rfl | rfl | rfl | rfl <;> decide
  · unfold tableI
    rw [if_neg (by omega), if_neg (by omega), if_neg (by omega), if_neg (by omega), if_neg (by omega), if_neg (by omega), if_neg (by omega), if_neg (by omega), if_neg (by omega), if_neg (by omega), if_neg (by omega), if_neg (by omega)]
    omega
theorem ahead_in {m y : Int} : 0 ≤ aheadI m y ∧ aheadI m y ≤ 366 := by
  have := @table_in m
  unfold aheadI leapI
  split
  · split <;> omega
  · omega

theorem r24Count_no (db : Bool) (dd dm dy : Int) (cb : Bool) (ch cm cs cc : Int) (w : World) (h : db = false ∨ db = true ∧ cb = false ∨ db = true ∧ cb = true ∧ datB (db, dd, dm, dy) = false ∨ db = true ∧ cb = true ∧ datB (db, dd, dm, dy) = true ∧ clkB (cb, ch, cm, cs, cc) = false) :
    Calls Tryz.prog 71 #[datV db dd dm dy, clkV cb ch cm cs cc] w fun e w' => e = .returned (.tuple #[.int .i64 0, .bool false]) ∧ Below w.heap.size w w' := by
  have HD := fun W => Lib.hid (r24MayDate_any db dd dm dy W)
  have HC := fun W => Lib.hid (r24May_any cb ch cm cs cc W)
  have HS1 : Hid (∀ o, ((w.alloc (datO db dd dm dy)).alloc (clkO cb ch cm cs cc)).cell? ⟨w.heap.size, o, none⟩ = (#[Value.bool db, .int .i64 dd, .int .i64 dm, .int .i64 dy] : Array Value)[o]?) := fun o => (World.cell?_alloc_past _ _ _ (by simp)).trans (World.cell?_alloc_at _ _ _ _ rfl)
  have HS2 : Hid (∀ o, ((w.alloc (datO db dd dm dy)).alloc (clkO cb ch cm cs cc)).cell? ⟨w.heap.size + 1, o, none⟩ = (#[Value.bool cb, .int .i64 ch, .int .i64 cm, .int .i64 cs, .int .i64 cc] : Array Value)[o]?) := fun o => World.cell?_alloc_at _ _ _ _ (by simp)
  have HB0 : Hid (Below w.heap.size w ((w.alloc (datO db dd dm dy)).alloc (clkO cb ch cm cs cc))) := bthen (below_new _ _) (below_new _ _)
  have HZ0 : Hid (((w.alloc (datO db dd dm dy)).alloc (clkO cb ch cm cs cc)).heap.size = w.heap.size + 2) := by show _ = _; simp
  rcases h with rfl | ⟨rfl, rfl⟩ | ⟨rfl, rfl, h⟩ | ⟨rfl, rfl, h, h2⟩
  · go_enter Tryz.func71, Tryz.ntmps71
    go_upto_region 1 with fail
    generalize hW0 : (w.alloc (datO false dd dm dy)).alloc (clkO cb ch cm cs cc) = W0 at *
    clear hW0
    have d0 := HS1.out 0
    have d1 := HS1.out 1
    have d2 := HS1.out 2
    have d3 := HS1.out 3
    have c0 := HS2.out 0
    go_wp2_with fail
    go_ret2
    exact ⟨rfl, HB0.out⟩
  · go_enter Tryz.func71, Tryz.ntmps71
    go_upto_region 1 with fail
    generalize hW0 : (w.alloc (datO true dd dm dy)).alloc (clkO false ch cm cs cc) = W0 at *
    clear hW0
    have d0 := HS1.out 0
    have d1 := HS1.out 1
    have d2 := HS1.out 2
    have d3 := HS1.out 3
    have c0 := HS2.out 0
    go_wp2_with fail
    go_ret2
    exact ⟨rfl, HB0.out⟩
  · rw [h] at HD
    clear h
    go_enter Tryz.func71, Tryz.ntmps71
    go_upto_region 1 with fail
    generalize hW0 : (w.alloc (datO true dd dm dy)).alloc (clkO true ch cm cs cc) = W0 at *
    clear hW0
    have d0 := HS1.out 0
    have d1 := HS1.out 1
    have d2 := HS1.out 2
    have d3 := HS1.out 3
    have c0 := HS2.out 0
    go_wp2_with fail
    refine (HD _).out.mono ?_
    rintro r w1 ⟨rfl, hb1⟩
    have HB1 := Lib.hid (bthen HB0.out hb1)
    clear hb1
    go_wp2_with fail
    go_ret2
    exact ⟨rfl, HB1.out⟩
  · rw [h] at HD
    rw [h2] at HC
    clear h h2
    go_enter Tryz.func71, Tryz.ntmps71
    go_upto_region 1 with fail
    generalize hW0 : (w.alloc (datO true dd dm dy)).alloc (clkO true ch cm cs cc) = W0 at *
    clear hW0
    have d0 := HS1.out 0
    have d1 := HS1.out 1
    have d2 := HS1.out 2
    have d3 := HS1.out 3
    have c0 := HS2.out 0
    go_wp2_with fail
    refine (HD _).out.mono ?_
    rintro r w1 ⟨rfl, hb1⟩
    have HB1 := Lib.hid (bthen HB0.out hb1)
    have k0 := ((bcell hb1).1 (w.heap.size + 1) 0 (by have := HZ0.out; omega)).trans (HS2.out 0)
    have k1 := ((bcell hb1).1 (w.heap.size + 1) 1 (by have := HZ0.out; omega)).trans (HS2.out 1)
    have k2 := ((bcell hb1).1 (w.heap.size + 1) 2 (by have := HZ0.out; omega)).trans (HS2.out 2)
    have k3 := ((bcell hb1).1 (w.heap.size + 1) 3 (by have := HZ0.out; omega)).trans (HS2.out 3)
    have k4 := ((bcell hb1).1 (w.heap.size + 1) 4 (by have := HZ0.out; omega)).trans (HS2.out 4)
    clear hb1 d0 d1 d2 d3 c0
    go_wp2_with fail
    refine (HC _).out.mono ?_
    rintro r w2 ⟨rfl, hb2⟩
    have HB2 := Lib.hid (bthen HB1.out hb2)
    clear hb2
    go_wp2_with fail
    go_ret2
    exact ⟨rfl, HB2.out⟩

set_option maxRecDepth 8000 in
set_option maxHeartbeats 2000000 in
theorem cCount_yes (dd dm dy ch cm cs cc : Int) (w : World) (h : datB (true, dd, dm, dy) = true) (h2 : clkB (true, ch, cm, cs, cc) = true) :
    Calls Tryz.prog 70 #[datV true dd dm dy, clkV true ch cm cs cc] w fun e w' => e = .returned (.tuple #[.int .i64 ((yearsI (dy - 2000) + aheadI dm dy + dd - 1) * 8640000 + ch * 360000 + cm * 6000 + cs * 100 + cc), .bool true]) ∧ Below w.heap.size w w' := by
  have HD := fun W => Lib.hid (cmayDate_any true dd dm dy W)
  have HC := fun W => Lib.hid (cmay_any true ch cm cs cc W)
  rw [h] at HD
  rw [h2] at HC
  obtain ⟨q1, q2, q3, q4, q5, q6⟩ := datB_true h
  obtain ⟨p1, p2, p3, p4, p5, p6, p7, p8⟩ := clkB_true h2
  have HY := fun W => Lib.hid (cyears_any (dy - 2000) W (by omega) (by omega))
  have HA := fun W => Lib.hid (cahead_any dm dy W q3 (by omega) q5 q6)
  have hy : 0 ≤ yearsI (dy - 2000) ∧ yearsI (dy - 2000) ≤ 40000 := by unfold yearsI; omega
  have ha := @ahead_in dm dy
  generalize yearsI (dy - 2000) = YI at *
  generalize aheadI dm dy = AI at *
  have i_w1 : IntKind.i64.wrap (dy - 2000) = dy - 2000 := IntWalk.i64_in _ (by omega)
  have i_w2 : IntKind.i64.wrap (YI + AI) = YI + AI := IntWalk.i64_in _ (by omega)
  have i_w3 : IntKind.i64.wrap (YI + AI + dd) = YI + AI + dd := IntWalk.i64_in _ (by omega)
  have i_w4 : IntKind.i64.wrap (YI + AI + dd - 1) = YI + AI + dd - 1 := IntWalk.i64_in _ (by omega)
  obtain ⟨N, hN⟩ : ∃ N, YI + AI + dd - 1 = N := ⟨_, rfl⟩
  have hNb : 0 ≤ N ∧ N ≤ 50000 := by omega
  have i_w0 := i_w4
  rw [hN] at i_w4 ⊢
  have i_w5 : IntKind.i64.wrap (N * 8640000) = N * 8640000 := IntWalk.i64_in _ (by omega)
  have i_w6 : IntKind.i64.wrap (ch * 360000) = ch * 360000 := IntWalk.i64_in _ (by omega)
  have i_w7 : IntKind.i64.wrap (N * 8640000 + ch * 360000) = N * 8640000 + ch * 360000 := IntWalk.i64_in _ (by omega)
  have i_w8 : IntKind.i64.wrap (cm * 6000) = cm * 6000 := IntWalk.i64_in _ (by omega)
  have i_w9 : IntKind.i64.wrap (N * 8640000 + ch * 360000 + cm * 6000) = N * 8640000 + ch * 360000 + cm * 6000 := IntWalk.i64_in _ (by omega)
  have i_wa : IntKind.i64.wrap (cs * 100) = cs * 100 := IntWalk.i64_in _ (by omega)
  have i_wb : IntKind.i64.wrap (N * 8640000 + ch * 360000 + cm * 6000 + cs * 100) = N * 8640000 + ch * 360000 + cm * 6000 + cs * 100 := IntWalk.i64_in _ (by omega)
  have i_wc : IntKind.i64.wrap (N * 8640000 + ch * 360000 + cm * 6000 + cs * 100 + cc) = N * 8640000 + ch * 360000 + cm * 6000 + cs * 100 + cc := IntWalk.i64_in _ (by omega)
  have HN := Lib.hid hN
  clear hN hNb hy ha q1 q2 q3 q4 q5 q6 p1 p2 p3 p4 p5 p6 p7 p8 h h2
  have HS1 : Hid (∀ o, ((w.alloc (datO true dd dm dy)).alloc (clkO true ch cm cs cc)).cell? ⟨w.heap.size, o, none⟩ = (#[Value.bool true, .int .i64 dd, .int .i64 dm, .int .i64 dy] : Array Value)[o]?) := fun o => (World.cell?_alloc_past _ _ _ (by simp)).trans (World.cell?_alloc_at _ _ _ _ rfl)
  have HS2 : Hid (∀ o, ((w.alloc (datO true dd dm dy)).alloc (clkO true ch cm cs cc)).cell? ⟨w.heap.size + 1, o, none⟩ = (#[Value.bool true, .int .i64 ch, .int .i64 cm, .int .i64 cs, .int .i64 cc] : Array Value)[o]?) := fun o => World.cell?_alloc_at _ _ _ _ (by simp)
  have HB0 : Hid (Below w.heap.size w ((w.alloc (datO true dd dm dy)).alloc (clkO true ch cm cs cc))) := bthen (below_new _ _) (below_new _ _)
  have HZ0 : Hid (((w.alloc (datO true dd dm dy)).alloc (clkO true ch cm cs cc)).heap.size = w.heap.size + 2) := by show _ = _; simp
  go_enter Tryz.func70, Tryz.ntmps70
  go_upto_region 1 with fail
  generalize hW0 : (w.alloc (datO true dd dm dy)).alloc (clkO true ch cm cs cc) = W0 at *
  clear hW0
  have d0 := HS1.out 0
  have d1 := HS1.out 1
  have d2 := HS1.out 2
  have d3 := HS1.out 3
  have c0 := HS2.out 0
  go_wp2_with fail
  refine (HD _).out.mono ?_
  rintro r w1 ⟨rfl, hb1⟩
  have HB1 := Lib.hid (bthen HB0.out hb1)
  have HK1 : Hid (∀ o, w1.cell? ⟨w.heap.size + 1, o, none⟩ = (#[Value.bool true, .int .i64 ch, .int .i64 cm, .int .i64 cs, .int .i64 cc] : Array Value)[o]?) := fun o => ((bcell hb1).1 (w.heap.size + 1) o (by have := HZ0.out; omega)).trans (HS2.out o)
  have HJ1 : Hid (∀ o, w1.cell? ⟨w.heap.size, o, none⟩ = (#[Value.bool true, .int .i64 dd, .int .i64 dm, .int .i64 dy] : Array Value)[o]?) := fun o => ((bcell hb1).1 w.heap.size o (by have := HZ0.out; omega)).trans (HS1.out o)
  have HZ1 : Hid (w.heap.size + 2 ≤ w1.heap.size) := by have := HZ0.out; have := hb1.size; show _ ≤ _; omega
  clear hb1 d0 d1 d2 d3 c0 HS1 HS2
  have k0 := HK1.out 0
  have k1 := HK1.out 1
  have k2 := HK1.out 2
  have k3 := HK1.out 3
  have k4 := HK1.out 4
  go_wp2_with fail
  refine (HC _).out.mono ?_
  rintro r w2 ⟨rfl, hb2⟩
  have HB2 := Lib.hid (bthen HB1.out hb2)
  have HJ2 : Hid (∀ o, w2.cell? ⟨w.heap.size, o, none⟩ = (#[Value.bool true, .int .i64 dd, .int .i64 dm, .int .i64 dy] : Array Value)[o]?) := fun o => ((bcell hb2).1 w.heap.size o (by have := HZ1.out; omega)).trans (HJ1.out o)
  have HL2 : Hid (∀ o, w2.cell? ⟨w.heap.size + 1, o, none⟩ = (#[Value.bool true, .int .i64 ch, .int .i64 cm, .int .i64 cs, .int .i64 cc] : Array Value)[o]?) := fun o => ((bcell hb2).1 (w.heap.size + 1) o (by have := HZ1.out; omega)).trans (HK1.out o)
  have HZA : Hid (w.heap.size < w2.heap.size) := by have := HZ1.out; have := hb2.size; show _ < _; omega
  have HZB : Hid (w.heap.size + 1 < w2.heap.size) := by have := HZ1.out; have := hb2.size; show _ < _; omega
  clear hb2 k0 k1 k2 k3 k4
  go_upto_region 3 with fail
  have HS0 : Hid (w2.drew.cell? ⟨w.heap.size, 1, none⟩ = some (.int .i64 dd) ∧ w2.drew.cell? ⟨w.heap.size, 2, none⟩ = some (.int .i64 dm) ∧ w2.drew.cell? ⟨w.heap.size, 3, none⟩ = some (.int .i64 dy) ∧ w2.drew.cell? ⟨w.heap.size, 0, none⟩ = some (.bool true) ∧ Hid (Below w2.heap.size w2 w2.drew) ∧ Hid (w.heap.size < w2.drew.heap.size)) := ⟨HJ2.out 1, HJ2.out 2, HJ2.out 3, HJ2.out 0, Lib.hid (bdrew (Below.refl _ _)), HZA.out⟩
  clear HJ2 HZA HC HD
  go_region_held3 (fun w' => w'.cell? ⟨w.heap.size, 1, none⟩ = some (.int .i64 dd) ∧ w'.cell? ⟨w.heap.size, 2, none⟩ = some (.int .i64 dm) ∧ w'.cell? ⟨w.heap.size, 3, none⟩ = some (.int .i64 dy) ∧ w'.cell? ⟨w.heap.size, 0, none⟩ = some (.bool true) ∧ Hid (Below w2.heap.size w2 w') ∧ Hid (w.heap.size < w'.heap.size)) (first | exact HS0.out | assumption | (refine quadS_below (by assumption) ?_; assumption) | (go_split_ands; refine ⟨?_, ?_, ?_, ?_, ?_, ?_⟩ <;> assumption) | (go_split_ands; refine quadS_below (by assumption) ⟨?_, ?_, ?_, ?_, ?_, ?_⟩ <;> assumption)) ((first | (go_at_call 96; refine (HY _).out.mono ?_; rintro e w9 ⟨rfl, rfl⟩) | (go_at_call 97; refine (HA _).out.mono ?_; rintro e w9 ⟨rfl, hb9⟩)))
  all_goals
    go_split_ands
    rename_i HB9 HZ9
    have z1 := ((bcell HB9.out).1 (w.heap.size + 1) 1 HZB.out).trans (HL2.out 1)
    have z2 := ((bcell HB9.out).1 (w.heap.size + 1) 2 HZB.out).trans (HL2.out 2)
    have z3 := ((bcell HB9.out).1 (w.heap.size + 1) 3 HZB.out).trans (HL2.out 3)
    have z4 := ((bcell HB9.out).1 (w.heap.size + 1) 4 HZB.out).trans (HL2.out 4)
    go_wp2_with fail
    go_ret2
    have a5 : wrap64 (N * 8640000) = N * 8640000 := (IntWalk.i64_left _).symm.trans i_w5
    have a7 : wrap64 (N * 8640000 + ch * 360000) = N * 8640000 + ch * 360000 := (IntWalk.i64_left _).symm.trans i_w7
    have a9 : wrap64 (N * 8640000 + ch * 360000 + cm * 6000) = N * 8640000 + ch * 360000 + cm * 6000 := (IntWalk.i64_left _).symm.trans i_w9
    have ab : wrap64 (N * 8640000 + ch * 360000 + cm * 6000 + cs * 100) = N * 8640000 + ch * 360000 + cm * 6000 + cs * 100 := (IntWalk.i64_left _).symm.trans i_wb
    have ac : wrap64 (N * 8640000 + ch * 360000 + cm * 6000 + cs * 100 + cc) = N * 8640000 + ch * 360000 + cm * 6000 + cs * 100 + cc := (IntWalk.i64_left _).symm.trans i_wc
    exact ⟨by simp [HN.out, a5, a7, a9, ab, ac], bthen HB2.out HB9.out⟩

def inS (dd y m : Int) : Int := dd - 1 + yearsI (y - 2000) + aheadI m y
def outS (dd dm dy y : Int) : Int := if y ≤ dy then inS dd y 1 else inS dd dy dm
theorem ahead_one (y : Int) : aheadI 1 y = 0 := by unfold aheadI tableI; simp
theorem outS_in {dd dm dy y : Int} (h : y ≤ dy) : outS dd dm dy y = inS dd y 1 := if_pos h
theorem outS_end {dd dm dy y : Int} (h : dy < y) : outS dd dm dy y = inS dd dy dm := if_neg (by omega)
theorem inS_next {dd y m : Int} (h1 : 1 ≤ m) (h2 : m ≤ 12) (h3 : 2000 ≤ y) (h4 : y ≤ 2099) : inS dd y (m + 1) = inS dd y m + daysI m y := by unfold inS; rw [ahead_succ h1 h2 h3 h4]; omega
theorem inS_year {dd y : Int} (h3 : 2000 ≤ y) : inS dd (y + 1) 1 = inS dd y 13 := by
  unfold inS
  rw [show y + 1 - 2000 = y - 2000 + 1 by omega, years_succ (by omega), ahead_one]
  have : aheadI 13 (y - 2000) = aheadI 13 y := by unfold aheadI leapI; rw [show (y - 2000) % 4 = y % 4 by omega]
  rw [this]; omega
theorem inS_bd {dd y m : Int} (h1 : 1 ≤ dd) (h2 : dd ≤ 31) (h3 : 2000 ≤ y) (h4 : y ≤ 2099) : 0 ≤ inS dd y m ∧ inS dd y m ≤ 50000 := by
  have := @ahead_in m y
  unfold inS yearsI; omega

set_option maxRecDepth 8000 in
set_option maxHeartbeats 2000000 in
theorem r24Count_yes (dd dm dy ch cm cs cc : Int) (w : World) (h : datB (true, dd, dm, dy) = true) (h2 : clkB (true, ch, cm, cs, cc) = true) :
    Calls Tryz.prog 71 #[datV true dd dm dy, clkV true ch cm cs cc] w fun e w' => e = .returned (.tuple #[.int .i64 ((yearsI (dy - 2000) + aheadI dm dy + dd - 1) * 8640000 + ch * 360000 + cm * 6000 + cs * 100 + cc), .bool true]) ∧ Below w.heap.size w w' := by
  have HD := fun W => Lib.hid (r24MayDate_any true dd dm dy W)
  have HC := fun W => Lib.hid (r24May_any true ch cm cs cc W)
  rw [h] at HD
  rw [h2] at HC
  obtain ⟨q1, q2, q3, q4, q5, q6⟩ := datB_true h
  obtain ⟨p1, p2, p3, p4, p5, p6, p7, p8⟩ := clkB_true h2
  obtain ⟨N, hN⟩ : ∃ N, yearsI (dy - 2000) + aheadI dm dy + dd - 1 = N := ⟨_, rfl⟩
  have hNb : 0 ≤ N ∧ N ≤ 50000 := by
    have := @ahead_in dm dy
    have : 0 ≤ yearsI (dy - 2000) ∧ yearsI (dy - 2000) ≤ 40000 := by unfold yearsI; omega
    omega
  rw [hN]
  have hD0 : dd - 1 = outS dd dm dy 2000 := by rw [outS_in (by omega)]; unfold inS yearsI; rw [ahead_one]; omega
  have i_w0 : IntKind.i64.wrap (dd - 1) = outS dd dm dy 2000 := by rw [IntWalk.i64_in _ (by omega)]; exact hD0
  have i_w5 : IntKind.i64.wrap (N * 8640000) = N * 8640000 := IntWalk.i64_in _ (by omega)
  have i_w6 : IntKind.i64.wrap (3600 * ch) = 3600 * ch := IntWalk.i64_in _ (by omega)
  have i_w7 : IntKind.i64.wrap (60 * cm) = 60 * cm := IntWalk.i64_in _ (by omega)
  have i_w8 : IntKind.i64.wrap (3600 * ch + 60 * cm) = 3600 * ch + 60 * cm := IntWalk.i64_in _ (by omega)
  have i_w9 : IntKind.i64.wrap (3600 * ch + 60 * cm + cs) = 3600 * ch + 60 * cm + cs := IntWalk.i64_in _ (by omega)
  have i_wa : IntKind.i64.wrap (100 * (3600 * ch + 60 * cm + cs)) = 100 * (3600 * ch + 60 * cm + cs) := IntWalk.i64_in _ (by omega)
  have i_wb : IntKind.i64.wrap (N * 8640000 + 100 * (3600 * ch + 60 * cm + cs)) = N * 8640000 + 100 * (3600 * ch + 60 * cm + cs) := IntWalk.i64_in _ (by omega)
  have i_wc : IntKind.i64.wrap (N * 8640000 + 100 * (3600 * ch + 60 * cm + cs) + cc) = N * 8640000 + 100 * (3600 * ch + 60 * cm + cs) + cc := IntWalk.i64_in _ (by omega)
  have HN := Lib.hid hN
  have HR : Hid (N * 8640000 + 100 * (3600 * ch + 60 * cm + cs) + cc = N * 8640000 + ch * 360000 + cm * 6000 + cs * 100 + cc) := by show _ = _; omega
  have HQ : Hid (1 ≤ dd ∧ dd ≤ 31 ∧ 1 ≤ dm ∧ dm ≤ 12 ∧ 2000 ≤ dy ∧ dy ≤ 2099) := ⟨q1, q2, q3, q4, q5, q6⟩
  clear hN hNb hD0 q1 q2 q3 q4 q5 q6 p1 p2 p3 p4 p5 p6 p7 p8 h h2
  have HS1 : Hid (∀ o, ((w.alloc (datO true dd dm dy)).alloc (clkO true ch cm cs cc)).cell? ⟨w.heap.size, o, none⟩ = (#[Value.bool true, .int .i64 dd, .int .i64 dm, .int .i64 dy] : Array Value)[o]?) := fun o => (World.cell?_alloc_past _ _ _ (by simp)).trans (World.cell?_alloc_at _ _ _ _ rfl)
  have HS2 : Hid (∀ o, ((w.alloc (datO true dd dm dy)).alloc (clkO true ch cm cs cc)).cell? ⟨w.heap.size + 1, o, none⟩ = (#[Value.bool true, .int .i64 ch, .int .i64 cm, .int .i64 cs, .int .i64 cc] : Array Value)[o]?) := fun o => World.cell?_alloc_at _ _ _ _ (by simp)
  have HB0 : Hid (Below w.heap.size w ((w.alloc (datO true dd dm dy)).alloc (clkO true ch cm cs cc))) := bthen (below_new _ _) (below_new _ _)
  have HZ0 : Hid (((w.alloc (datO true dd dm dy)).alloc (clkO true ch cm cs cc)).heap.size = w.heap.size + 2) := by show _ = _; simp
  go_enter Tryz.func71, Tryz.ntmps71
  go_upto_region 1 with fail
  generalize hW0 : (w.alloc (datO true dd dm dy)).alloc (clkO true ch cm cs cc) = W0 at *
  clear hW0
  have d0 := HS1.out 0
  have d1 := HS1.out 1
  have d2 := HS1.out 2
  have d3 := HS1.out 3
  have c0 := HS2.out 0
  go_wp2_with fail
  refine (HD _).out.mono ?_
  rintro r w1 ⟨rfl, hb1⟩
  have HB1 := Lib.hid (bthen HB0.out hb1)
  have HK1 : Hid (∀ o, w1.cell? ⟨w.heap.size + 1, o, none⟩ = (#[Value.bool true, .int .i64 ch, .int .i64 cm, .int .i64 cs, .int .i64 cc] : Array Value)[o]?) := fun o => ((bcell hb1).1 (w.heap.size + 1) o (by have := HZ0.out; omega)).trans (HS2.out o)
  have HJ1 : Hid (∀ o, w1.cell? ⟨w.heap.size, o, none⟩ = (#[Value.bool true, .int .i64 dd, .int .i64 dm, .int .i64 dy] : Array Value)[o]?) := fun o => ((bcell hb1).1 w.heap.size o (by have := HZ0.out; omega)).trans (HS1.out o)
  have HZ1 : Hid (w.heap.size + 2 ≤ w1.heap.size) := by have := HZ0.out; have := hb1.size; show _ ≤ _; omega
  clear hb1 d0 d1 d2 d3 c0 HS1 HS2
  have k0 := HK1.out 0
  have k1 := HK1.out 1
  have k2 := HK1.out 2
  have k3 := HK1.out 3
  have k4 := HK1.out 4
  go_wp2_with fail
  refine (HC _).out.mono ?_
  rintro r w2 ⟨rfl, hb2⟩
  have HB2 := Lib.hid (bthen HB1.out hb2)
  have HJ2 : Hid (∀ o, w2.cell? ⟨w.heap.size, o, none⟩ = (#[Value.bool true, .int .i64 dd, .int .i64 dm, .int .i64 dy] : Array Value)[o]?) := fun o => ((bcell hb2).1 w.heap.size o (by have := HZ1.out; omega)).trans (HJ1.out o)
  have HL2 : Hid (∀ o, w2.cell? ⟨w.heap.size + 1, o, none⟩ = (#[Value.bool true, .int .i64 ch, .int .i64 cm, .int .i64 cs, .int .i64 cc] : Array Value)[o]?) := fun o => ((bcell hb2).1 (w.heap.size + 1) o (by have := HZ1.out; omega)).trans (HK1.out o)
  have HZA : Hid (w.heap.size < w2.heap.size) := by have := HZ1.out; have := hb2.size; show _ < _; omega
  have HZB : Hid (w.heap.size + 1 < w2.heap.size) := by have := HZ1.out; have := hb2.size; show _ < _; omega
  have j1 := HJ2.out 1
  have j2 := HJ2.out 2
  have j3 := HJ2.out 3
  have z1 := HL2.out 1
  have z2 := HL2.out 2
  have z3 := HL2.out 3
  have z4 := HL2.out 4
  clear hb2 k0 k1 k2 k3 k4
  clear HJ2 HL2 HZA HZB HC HD
  go_wp2_with fail
  go_loop [6, 7] (fun d y => ∃ yy : Int, 2000 ≤ yy ∧ yy ≤ dy + 1 ∧ y = .int .i64 yy ∧ d = .int .i64 (outS dd dm dy yy)) (fun _ y => (dy + 1 - intOf y).toNat)
  case atStart => exact ⟨2000, by omega, by have := HQ.out; omega, rfl, rfl⟩
  case round =>
    obtain ⟨yy, hy1, hy2, rfl, rfl⟩ := hrel
    obtain ⟨q1, q2, q3, q4, q5, q6⟩ := HQ.out
    by_cases hle : yy ≤ dy
    · have HO := Lib.hid (outS_in (dd := dd) (dm := dm) hle)
      have t1 : decide (yy ≤ dy) = true := decide_eq_true hle
      have hw : IntKind.i64.wrap (yy + 1) = yy + 1 := IntWalk.i64_in _ (by omega)
      rw [HO.out]
      clear HO
      by_cases hlt : yy < dy
      · have HN1 : Hid (inS dd yy 13 = outS dd dm dy (yy + 1)) := by show _ = _; rw [outS_in (by omega), inS_year hy1]
        have HBd : Hid (∀ m, 0 ≤ inS dd yy m ∧ inS dd yy m ≤ 50000) := fun m => inS_bd q1 q2 hy1 (by omega)
        have hyz : yy ≤ 2099 := by omega
        have HQ2 := Lib.hid hy2
        clear q1 q2 q3 q4 q5 q6 hle hy2
        go_wp2_with fail
        go_loop [6, 8] (fun d m => ∃ mm : Int, 1 ≤ mm ∧ mm ≤ 13 ∧ m = .int .i64 mm ∧ d = .int .i64 (inS dd yy mm)) (fun _ m => (13 - intOf m).toNat)
        case atStart => exact ⟨1, by omega, by omega, rfl, rfl⟩
        case round =>
          obtain ⟨mm, hm1, hm2, rfl, rfl⟩ := hrel
          by_cases hmm : mm ≤ 12
          · have hs : IntKind.i64.wrap (inS dd yy mm + daysI mm yy) = inS dd yy (mm + 1) := by
              rw [← inS_next hm1 hmm hy1 hyz]
              have := HBd.out (mm + 1)
              exact IntWalk.i64_in _ (by omega)
            have hw2 : IntKind.i64.wrap (mm + 1) = mm + 1 := IntWalk.i64_in _ (by omega)
            have t2 : decide (mm ≤ 12) = true := decide_eq_true hmm
            go_wp2_with (go_at_call 99; refine (r24Days_any _ _ _).mono ?_; rintro e w' ⟨rfl, rfl⟩)
            go_round
            case rel => exact ⟨mm + 1, by omega, by omega, rfl, rfl⟩
            case measure => simp [intOf]; omega
          · obtain rfl : mm = 13 := by omega
            go_wp2_with fail
            go_round
            case rel => exact ⟨yy + 1, by omega, by have := HQ2.out; omega, rfl, by rw [HN1.out]⟩
            case measure => simp [intOf]; omega
      · obtain rfl : yy = dy := by omega
        have HN1 : Hid (inS dd yy dm = outS dd dm yy (yy + 1)) := by show _ = _; rw [outS_end (by omega)]
        have HBd : Hid (∀ m, 0 ≤ inS dd yy m ∧ inS dd yy m ≤ 50000) := fun m => inS_bd q1 q2 hy1 (by omega)
        clear q1 q2 hle hy2
        go_wp2_with fail
        go_loop [6, 8] (fun d m => ∃ mm : Int, 1 ≤ mm ∧ mm ≤ dm ∧ m = .int .i64 mm ∧ d = .int .i64 (inS dd yy mm)) (fun _ m => (13 - intOf m).toNat)
        case atStart => exact ⟨1, by omega, by omega, rfl, rfl⟩
        case round =>
          obtain ⟨mm, hm1, hm2, rfl, rfl⟩ := hrel
          have t2 : decide (mm ≤ 12) = true := decide_eq_true (by omega)
          by_cases hmm : mm < dm
          · have hs : IntKind.i64.wrap (inS dd yy mm + daysI mm yy) = inS dd yy (mm + 1) := by
              rw [← inS_next hm1 (by omega) hy1 (by omega)]
              have := HBd.out (mm + 1)
              exact IntWalk.i64_in _ (by omega)
            have hw2 : IntKind.i64.wrap (mm + 1) = mm + 1 := IntWalk.i64_in _ (by omega)
            have t3 : decide (mm < dm) = true := decide_eq_true hmm
            go_wp2_with (go_at_call 99; refine (r24Days_any _ _ _).mono ?_; rintro e w' ⟨rfl, rfl⟩)
            go_round
            case rel => exact ⟨mm + 1, by omega, by omega, rfl, rfl⟩
            case measure => simp [intOf]; omega
          · obtain rfl : mm = dm := by omega
            go_wp2_with fail
            go_round
            case rel => exact ⟨yy + 1, by omega, by omega, rfl, by rw [HN1.out]⟩
            case measure => simp [intOf]; omega
    · obtain rfl : yy = dy + 1 := by omega
      have t1 : decide (dy + 1 ≤ dy) = false := decide_eq_false (by omega)
      have HO : Hid (outS dd dm dy (dy + 1) = N) := by show _ = _; rw [outS_end (by omega), ← HN.out]; unfold inS; omega
      rw [HO.out]
      clear HO q1 q2 q3 q4 q5 q6 hle hy1 hy2
      go_wp2_with fail
      go_ret2
      exact ⟨by rw [HR.out]; rfl, HB2.out⟩

theorem cCount_any (db : Bool) (dd dm dy : Int) (cb : Bool) (ch cm cs cc : Int) (w : World) :
    Calls Tryz.prog 70 #[datV db dd dm dy, clkV cb ch cm cs cc] w fun e w' => e = .returned (.tuple #[.int .i64 (cntI (db, dd, dm, dy) (cb, ch, cm, cs, cc)).1, .bool (cntI (db, dd, dm, dy) (cb, ch, cm, cs, cc)).2]) ∧ Below w.heap.size w w' := by
  by_cases h : db = true ∧ cb = true ∧ datB (db, dd, dm, dy) = true ∧ clkB (cb, ch, cm, cs, cc) = true
  · rw [show cntI (db, dd, dm, dy) (cb, ch, cm, cs, cc) = ((yearsI (dy - 2000) + aheadI dm dy + dd - 1) * 8640000 + ch * 360000 + cm * 6000 + cs * 100 + cc, true) from if_pos h]
    obtain ⟨rfl, rfl, h3, h4⟩ := h
    exact cCount_yes dd dm dy ch cm cs cc w h3 h4
  · rw [show cntI (db, dd, dm, dy) (cb, ch, cm, cs, cc) = (0, false) from if_neg h]
    refine cCount_no db dd dm dy cb ch cm cs cc w ?_
    cases db with
    | false => exact .inl rfl
    | true =>
      cases cb with
      | false => exact .inr (.inl ⟨rfl, rfl⟩)
      | true =>
        cases h3 : datB (true, dd, dm, dy) with
        | false => exact .inr (.inr (.inl ⟨rfl, rfl, rfl⟩))
        | true =>
          cases h4 : clkB (true, ch, cm, cs, cc) with
          | false => exact .inr (.inr (.inr ⟨rfl, rfl, rfl, rfl⟩))
          | true => exact absurd ⟨rfl, rfl, h3, h4⟩ h
theorem r24Count_any (db : Bool) (dd dm dy : Int) (cb : Bool) (ch cm cs cc : Int) (w : World) :
    Calls Tryz.prog 71 #[datV db dd dm dy, clkV cb ch cm cs cc] w fun e w' => e = .returned (.tuple #[.int .i64 (cntI (db, dd, dm, dy) (cb, ch, cm, cs, cc)).1, .bool (cntI (db, dd, dm, dy) (cb, ch, cm, cs, cc)).2]) ∧ Below w.heap.size w w' := by
  by_cases h : db = true ∧ cb = true ∧ datB (db, dd, dm, dy) = true ∧ clkB (cb, ch, cm, cs, cc) = true
  · rw [show cntI (db, dd, dm, dy) (cb, ch, cm, cs, cc) = ((yearsI (dy - 2000) + aheadI dm dy + dd - 1) * 8640000 + ch * 360000 + cm * 6000 + cs * 100 + cc, true) from if_pos h]
    obtain ⟨rfl, rfl, h3, h4⟩ := h
    exact r24Count_yes dd dm dy ch cm cs cc w h3 h4
  · rw [show cntI (db, dd, dm, dy) (cb, ch, cm, cs, cc) = (0, false) from if_neg h]
    refine r24Count_no db dd dm dy cb ch cm cs cc w ?_
    cases db with
    | false => exact .inl rfl
    | true =>
      cases cb with
      | false => exact .inr (.inl ⟨rfl, rfl⟩)
      | true =>
        cases h3 : datB (true, dd, dm, dy) with
        | false => exact .inr (.inr (.inl ⟨rfl, rfl, rfl⟩))
        | true =>
          cases h4 : clkB (true, ch, cm, cs, cc) with
          | false => exact .inr (.inr (.inr ⟨rfl, rfl, rfl, rfl⟩))
          | true => exact absurd ⟨rfl, rfl, h3, h4⟩ h
set_option maxRecDepth 8000 in
theorem rmcWhen_any (cb : Bool) (ch : Int) (cm : Int) (cs : Int) (cc : Int) (st : Bool) (lb : Bool) (ln : Int) (ob : Bool) (on : Int) (sb : Bool) (sn : Int) (kb : Bool) (kn : Int) (vb : Bool) (vn : Int) (db : Bool) (dd : Int) (dm : Int) (dy : Int) (w : World) :
    Calls Tryz.prog 12 #[rmcV cb ch cm cs cc st lb ln ob on sb sn kb kn vb vn db dd dm dy] w fun e w' => e = .returned (.tuple #[.int .i64 (cntI (db, dd, dm, dy) (cb, ch, cm, cs, cc)).1, .bool (cntI (db, dd, dm, dy) (cb, ch, cm, cs, cc)).2]) ∧ Below w.heap.size w w' := by
  have HC := fun W => Lib.hid (cCount_any db dd dm dy cb ch cm cs cc W)
  generalize cntI (db, dd, dm, dy) (cb, ch, cm, cs, cc) = X at *
  obtain ⟨n, b⟩ := X
  dsimp only at HC ⊢
  have HM0 : Hid (∀ o, (w.alloc (.cells (rmcC cb ch cm cs cc st lb ln ob on sb sn kb kn vb vn db dd dm dy) 32)).cell? ⟨w.heap.size, o, none⟩ = (rmcC cb ch cm cs cc st lb ln ob on sb sn kb kn vb vn db dd dm dy)[o]?) := fun o => World.cell?_alloc_at _ _ _ _ rfl
  have HB0 := Lib.hid (below_new w (.cells (rmcC cb ch cm cs cc st lb ln ob on sb sn kb kn vb vn db dd dm dy) 32))
  go_enter Tryz.func12, Tryz.ntmps12
  go_upto_region 1 with fail
  generalize hW1 : w.alloc (.cells (rmcC cb ch cm cs cc st lb ln ob on sb sn kb kn vb vn db dd dm dy) 32) = W1 at *
  clear hW1
  have m0 := HM0.out 0
  have m1 := HM0.out 1
  have m2 := HM0.out 2
  have m3 := HM0.out 3
  have m4 := HM0.out 4
  have d0 := HM0.out 16
  have d1 := HM0.out 17
  have d2 := HM0.out 18
  have d3 := HM0.out 19
  clear HM0
  go_wp2_with fail
  refine (HC _).out.mono ?_
  rintro r w2 ⟨rfl, hb⟩
  have HB2 := Lib.hid (bthen HB0.out hb)
  clear hb
  go_wp2_with fail
  go_ret2
  exact ⟨rfl, HB2.out⟩
set_option maxRecDepth 8000 in
theorem r26When_any (cb : Bool) (ch : Int) (cm : Int) (cs : Int) (cc : Int) (st : Bool) (lb : Bool) (ln : Int) (ob : Bool) (on : Int) (sb : Bool) (sn : Int) (kb : Bool) (kn : Int) (vb : Bool) (vn : Int) (db : Bool) (dd : Int) (dm : Int) (dy : Int) (w : World) :
    Calls Tryz.prog 13 #[rmcV cb ch cm cs cc st lb ln ob on sb sn kb kn vb vn db dd dm dy] w fun e w' => e = .returned (.tuple #[.int .i64 (cntI (db, dd, dm, dy) (cb, ch, cm, cs, cc)).1, .bool (cntI (db, dd, dm, dy) (cb, ch, cm, cs, cc)).2]) ∧ Below w.heap.size w w' := by
  have HC := fun W => Lib.hid (r24Count_any db dd dm dy cb ch cm cs cc W)
  generalize cntI (db, dd, dm, dy) (cb, ch, cm, cs, cc) = X at *
  obtain ⟨n, b⟩ := X
  dsimp only at HC ⊢
  have HM0 : Hid (∀ o, (w.alloc (.cells (rmcC cb ch cm cs cc st lb ln ob on sb sn kb kn vb vn db dd dm dy) 32)).cell? ⟨w.heap.size, o, none⟩ = (rmcC cb ch cm cs cc st lb ln ob on sb sn kb kn vb vn db dd dm dy)[o]?) := fun o => World.cell?_alloc_at _ _ _ _ rfl
  have HB0 := Lib.hid (below_new w (.cells (rmcC cb ch cm cs cc st lb ln ob on sb sn kb kn vb vn db dd dm dy) 32))
  go_enter Tryz.func13, Tryz.ntmps13
  go_upto_region 1 with fail
  generalize hW1 : w.alloc (.cells (rmcC cb ch cm cs cc st lb ln ob on sb sn kb kn vb vn db dd dm dy) 32) = W1 at *
  clear hW1
  have m0 := HM0.out 0
  have m1 := HM0.out 1
  have m2 := HM0.out 2
  have m3 := HM0.out 3
  have m4 := HM0.out 4
  have d0 := HM0.out 16
  have d1 := HM0.out 17
  have d2 := HM0.out 18
  have d3 := HM0.out 19
  clear HM0
  go_wp2_with fail
  refine (HC _).out.mono ?_
  rintro r w2 ⟨rfl, hb⟩
  have HB2 := Lib.hid (bthen HB0.out hb)
  clear hb
  go_wp2_with fail
  go_ret2
  exact ⟨rfl, HB2.out⟩
end Go.Proofs.YtfgopmfaeooadaaGreatDoor
