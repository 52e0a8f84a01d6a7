/- Layer 24: the reference's Put; PutDate of both. Printed by genclke.py. -/
import Derived.Test.YtfgopmfaeooadaaGreatDoorMz5
namespace Go.Proofs.YtfgopmfaeooadaaGreatDoor
set_option linter.unusedVariables false
open Go.RowKit

theorem r24clk_no (b : Bool) (h m s c : Int) (w : World) (hb : clkB (b, h, m, s, c) = false) : Calls Tryz.prog 92 #[clkV b h m s c] w fun e w' => e = .returned (.tuple #[.string ByteArray.empty, .int .i64 5]) ∧ Below w.heap.size w w' := by
  have HM := fun W => Lib.hid (r24May_any b h m s c W)
  rw [hb] at HM
  go_enter Tryz.func92, Tryz.ntmps92
  go_wp2_with fail
  refine ((HM _).out).mono ?_
  rintro e w1 ⟨rfl, hb1⟩
  go_wp2_with fail
  go_ret2
  exact ⟨rfl, bthen (below_new _ _) hb1⟩
theorem r24clk_none (w : World) : Calls Tryz.prog 92 #[clkV false 0 0 0 0] w fun e w' => e = .returned (.tuple #[.string ByteArray.empty, .int .i64 0]) ∧ Below w.heap.size w w' := by
  have HM := fun W => Lib.hid (r24May_any false 0 0 0 0 W)
  rw [show clkB (false, 0, 0, 0, 0) = true from rfl] at HM
  have HS : Hid ((w.alloc (.cells #[.bool false, .int .i64 0, .int .i64 0, .int .i64 0, .int .i64 0] 26)).cell? ⟨w.heap.size, 0, none⟩ = some (.bool false)) := World.cell?_alloc_at _ _ _ _ rfl
  go_enter Tryz.func92, Tryz.ntmps92
  go_wp2_with fail
  refine ((HM _).out).mono ?_
  rintro e w1 ⟨rfl, hb1⟩
  have c0 := ((bcell hb1).1 w.heap.size 0 (by simp)).trans HS.out
  go_wp2_with fail
  go_ret2
  exact ⟨rfl, bthen (below_new _ _) hb1⟩
theorem cat3 (a b c : ByteArray) : a ++ b ++ c = a ++ (b ++ c) := by
  apply ByteArray.ext
  simp
set_option maxRecDepth 8000 in
set_option maxHeartbeats 4000000 in
theorem r24clk_ok (h m s c : Int) (w : World) (hb : clkB (true, h, m, s, c) = true) : Calls Tryz.prog 92 #[clkV true h m s c] w fun e w' => e = .returned (.tuple #[.string (toB (twoL h ++ twoL m ++ twoL s ++ clkTail c)), .int .i64 0]) ∧ Below w.heap.size w w' := by
  have HM := fun W => Lib.hid (r24May_any true h m s c W)
  obtain ⟨x1, x2, x3, x4, x5, x6, x7, x8⟩ := clkB_true hb
  rw [hb] at HM
  have H4 := fun W => Lib.hid (r24two_any c W x7 x8)
  have H5 := fun W => Lib.hid (r24one_any (c / 10) W (by omega) (by omega))
  obtain ⟨X, hX⟩ : ∃ X, toB (twoL h ++ twoL m ++ twoL s ++ clkTail c) = X := ⟨_, rfl⟩
  rw [hX]
  have HC0 : Hid (c = 0 → X = toB (twoL h) ++ toB (twoL m) ++ toB (twoL s)) := fun q => by
    rw [← hX, ← toB_app, ← toB_app, q]
    show toB (_ ++ []) = _
    rw [List.append_nil]
  have HC1 : Hid (c ≠ 0 → c % 10 = 0 → X = toB (twoL h) ++ toB (twoL m) ++ toB (twoL s) ++ ⟨#[46]⟩ ++ ⟨#[UInt8.ofNat (48 + c / 10).toNat]⟩) := fun q r => by
    rw [← hX, ← toB_app, ← toB_app, toB_app _ (clkTail c), cat3 _ ⟨#[46]⟩]
    congr 1
    unfold clkTail
    rw [if_neg q, if_pos r]
    rfl
  have HC2 : Hid (c ≠ 0 → c % 10 ≠ 0 → X = toB (twoL h) ++ toB (twoL m) ++ toB (twoL s) ++ ⟨#[46]⟩ ++ toB (twoL c)) := fun q r => by
    rw [← hX, ← toB_app, ← toB_app, toB_app _ (clkTail c), cat3 _ ⟨#[46]⟩]
    congr 1
    unfold clkTail
    rw [if_neg q, if_neg r]
    rfl
  have zA : (toB (twoL h)).size = 2 := rfl
  have zB : (toB (twoL m)).size = 2 := rfl
  have zC' : (toB (twoL s)).size = 2 := rfl
  have zD' : (toB (twoL c)).size = 2 := rfl
  have zE' : (⟨#[UInt8.ofNat (48 + c / 10).toNat]⟩ : ByteArray).size = 1 := rfl
  clear hb hX
  have HS : Hid (∀ o, (w.alloc (.cells #[.bool true, .int .i64 h, .int .i64 m, .int .i64 s, .int .i64 c] 26)).cell? ⟨w.heap.size, o, none⟩ = (#[Value.bool true, .int .i64 h, .int .i64 m, .int .i64 s, .int .i64 c] : Array Value)[o]?) := fun o => World.cell?_alloc_at _ _ _ _ rfl
  go_enter Tryz.func92, Tryz.ntmps92
  go_wp2_with fail
  refine ((HM _).out).mono ?_
  rintro e w1 ⟨rfl, hb1⟩
  have hz1 : w.heap.size < w1.heap.size := by have := hb1.size; simp at this; omega
  have c0 := ((bcell hb1).1 w.heap.size 0 (by simp)).trans (HS.out 0)
  have HC : Hid (∀ o, w1.cell? ⟨w.heap.size, o, none⟩ = (#[Value.bool true, .int .i64 h, .int .i64 m, .int .i64 s, .int .i64 c] : Array Value)[o]?) := fun o => ((bcell hb1).1 w.heap.size o (by simp)).trans (HS.out o)
  have HB1 := Lib.hid (bthen (below_new w _) hb1)
  have HZ1 := Lib.hid hz1
  clear hb1 hz1 HS HM
  go_wp2_with fail
  have HS0 : Hid (w1.drew.cell? ⟨w.heap.size, 1, none⟩ = some (.int .i64 h) ∧ w1.drew.cell? ⟨w.heap.size, 2, none⟩ = some (.int .i64 m) ∧ w1.drew.cell? ⟨w.heap.size, 3, none⟩ = some (.int .i64 s) ∧ w1.drew.cell? ⟨w.heap.size, 4, none⟩ = some (.int .i64 c) ∧ Hid (Below w.heap.size w w1.drew) ∧ Hid (w.heap.size < w1.drew.heap.size)) := ⟨HC.out 1, HC.out 2, HC.out 3, HC.out 4, bdrew HB1.out, HZ1.out⟩
  clear c0 HC HB1 HZ1
  go_region_held3 (fun w' => w'.cell? ⟨w.heap.size, 1, none⟩ = some (.int .i64 h) ∧ w'.cell? ⟨w.heap.size, 2, none⟩ = some (.int .i64 m) ∧ w'.cell? ⟨w.heap.size, 3, none⟩ = some (.int .i64 s) ∧ w'.cell? ⟨w.heap.size, 4, none⟩ = some (.int .i64 c) ∧ Hid (Below w.heap.size w w') ∧ Hid (w.heap.size < w'.heap.size)) (first | exact HS0.out | assumption | (refine quadS_below (by assumption) ?_; assumption) | (go_split_ands; refine ⟨?_, ?_, ?_, ?_, ?_, ?_⟩ <;> assumption) | (go_split_ands; refine quadS_below (by assumption) ⟨?_, ?_, ?_, ?_, ?_, ?_⟩ <;> assumption)) ((go_at_call 95; refine (r24two_any _ _ (by omega) (by omega)).mono ?_; rintro e w9 ⟨rfl, hb9⟩))
  all_goals
    go_split_ands
    rename_i HB9 HZ9
    by_cases hc : c = 0
    · have HR := Lib.hid (HC0.out hc)
      clear HC0 HC1 HC2 H4 H5
      subst hc
      go_wp2_with fail
      go_ret2
      exact ⟨by rw [HR.out]; rfl, HB9.out⟩
    · have hcb : (c == 0) = false := by rw [beq_eq_false_iff_ne]; exact hc
      by_cases hr : c % 10 = 0
      · have hrb : (c % 10 == 0) = true := by rw [beq_iff_eq]; exact hr
        have HR := Lib.hid (HC1.out hc hr)
        clear hr hc HC0 HC1 HC2
        go_wp2_with fail
        refine ((H5 _).out).mono ?_
        rintro e w4 ⟨rfl, hb4⟩
        go_wp2_with fail
        go_ret2
        exact ⟨by rw [HR.out]; rfl, bthen HB9.out hb4⟩
      · have hrb : (c % 10 == 0) = false := by rw [beq_eq_false_iff_ne]; exact hr
        have HR := Lib.hid (HC2.out hc hr)
        clear hr hc HC0 HC1 HC2
        go_wp2_with fail
        refine ((H4 _).out).mono ?_
        rintro e w4 ⟨rfl, hb4⟩
        go_wp2_with fail
        go_ret2
        exact ⟨by rw [HR.out]; rfl, bthen HB9.out hb4⟩
theorem r24Put_any (b : Bool) (h m s c : Int) (w : World) : Calls Tryz.prog 92 #[clkV b h m s c] w fun e w' => e = .returned (.tuple #[.string (clkT (b, h, m, s, c)).1, .int .i64 (clkT (b, h, m, s, c)).2]) ∧ Below w.heap.size w w' := by
  unfold clkT
  by_cases hb : clkB (b, h, m, s, c) = false
  · rw [if_pos hb]; exact r24clk_no b h m s c w hb
  · rw [if_neg hb]
    have hb : clkB (b, h, m, s, c) = true := by simpa using hb
    cases b with
    | false =>
      obtain ⟨rfl, rfl, rfl, rfl⟩ := clkB_false hb
      rw [if_pos rfl]
      exact r24clk_none w
    | true =>
      rw [if_neg (by simp)]
      exact r24clk_ok h m s c w hb
theorem dat_no (b : Bool) (d m y : Int) (w : World) (hb : datB (b, d, m, y) = false) : Calls Tryz.prog 59 #[datV b d m y] w fun e w' => e = .returned (.tuple #[.string ByteArray.empty, .int .i64 5]) ∧ Below w.heap.size w w' := by
  have HM := fun W => Lib.hid (cmayDate_any b d m y W)
  rw [hb] at HM
  go_enter Tryz.func59, Tryz.ntmps59
  go_wp2_with fail
  refine ((HM _).out).mono ?_
  rintro e w1 ⟨rfl, hb1⟩
  go_wp2_with fail
  go_ret2
  exact ⟨rfl, bthen (below_new _ _) hb1⟩
theorem dat_none (w : World) : Calls Tryz.prog 59 #[datV false 0 0 0] w fun e w' => e = .returned (.tuple #[.string ByteArray.empty, .int .i64 0]) ∧ Below w.heap.size w w' := by
  have HM := fun W => Lib.hid (cmayDate_any false 0 0 0 W)
  rw [show datB (false, 0, 0, 0) = true from rfl] at HM
  have HS : Hid ((w.alloc (.cells #[.bool false, .int .i64 0, .int .i64 0, .int .i64 0] 30)).cell? ⟨w.heap.size, 0, none⟩ = some (.bool false)) := World.cell?_alloc_at _ _ _ _ rfl
  go_enter Tryz.func59, Tryz.ntmps59
  go_wp2_with fail
  refine ((HM _).out).mono ?_
  rintro e w1 ⟨rfl, hb1⟩
  have c0 := ((bcell hb1).1 w.heap.size 0 (by simp)).trans HS.out
  go_wp2_with fail
  go_ret2
  exact ⟨rfl, bthen (below_new _ _) hb1⟩
set_option maxRecDepth 8000 in
set_option maxHeartbeats 4000000 in
theorem dat_ok (d m y : Int) (w : World) (hb : datB (true, d, m, y) = true) : Calls Tryz.prog 59 #[datV true d m y] w fun e w' => e = .returned (.tuple #[.string (toB (twoL d ++ twoL m ++ twoL (y - 2000))), .int .i64 0]) ∧ Below w.heap.size w w' := by
  have HM := fun W => Lib.hid (cmayDate_any true d m y W)
  obtain ⟨x1, x2⟩ : 1 ≤ d ∧ d ≤ daysI m y := of_decide_eq_true hb
  have q1 := days_le m y
  obtain ⟨x3, x4, x5, x6⟩ := days_pos (show 1 ≤ daysI m y by omega)
  have x7 : d ≤ 31 := by omega
  rw [hb] at HM
  obtain ⟨X, hX⟩ : ∃ X, toB (twoL d ++ twoL m ++ twoL (y - 2000)) = X := ⟨_, rfl⟩
  rw [hX]
  have HE : Hid (X = toB (twoL d) ++ toB (twoL m) ++ toB (twoL (y - 2000))) := by
    show _ = _
    rw [← hX, toB_app, toB_app]
  have zA : (toB (twoL d)).size = 2 := rfl
  have zB : (toB (twoL m)).size = 2 := rfl
  have zC' : (toB (twoL (y - 2000))).size = 2 := rfl
  have hw : IntKind.i64.wrap (y - 2000) = y - 2000 := IntWalk.i64_in _ (by omega)
  clear hb x2 q1 hX
  have HS : Hid (∀ o, (w.alloc (.cells #[.bool true, .int .i64 d, .int .i64 m, .int .i64 y] 30)).cell? ⟨w.heap.size, o, none⟩ = (#[Value.bool true, .int .i64 d, .int .i64 m, .int .i64 y] : Array Value)[o]?) := fun o => World.cell?_alloc_at _ _ _ _ rfl
  go_enter Tryz.func59, Tryz.ntmps59
  go_wp2_with fail
  refine ((HM _).out).mono ?_
  rintro e w1 ⟨rfl, hb1⟩
  have hz1 : w.heap.size < w1.heap.size := by have := hb1.size; simp at this; omega
  have c0 := ((bcell hb1).1 w.heap.size 0 (by simp)).trans (HS.out 0)
  have HC : Hid (∀ o, w1.cell? ⟨w.heap.size, o, none⟩ = (#[Value.bool true, .int .i64 d, .int .i64 m, .int .i64 y] : Array Value)[o]?) := fun o => ((bcell hb1).1 w.heap.size o (by simp)).trans (HS.out o)
  have HB1 := Lib.hid (bthen (below_new w _) hb1)
  have HZ1 := Lib.hid hz1
  clear hb1 hz1 HS HM
  go_wp2_with fail
  have HS0 : Hid (w1.drew.cell? ⟨w.heap.size, 1, none⟩ = some (.int .i64 d) ∧ w1.drew.cell? ⟨w.heap.size, 2, none⟩ = some (.int .i64 m) ∧ w1.drew.cell? ⟨w.heap.size, 3, none⟩ = some (.int .i64 y) ∧ w1.drew.cell? ⟨w.heap.size, 0, none⟩ = some (.bool true) ∧ Hid (Below w.heap.size w w1.drew) ∧ Hid (w.heap.size < w1.drew.heap.size)) := ⟨HC.out 1, HC.out 2, HC.out 3, HC.out 0, bdrew HB1.out, HZ1.out⟩
  clear c0 HC HB1 HZ1
  go_region_held3 (fun w' => w'.cell? ⟨w.heap.size, 1, none⟩ = some (.int .i64 d) ∧ w'.cell? ⟨w.heap.size, 2, none⟩ = some (.int .i64 m) ∧ w'.cell? ⟨w.heap.size, 3, none⟩ = some (.int .i64 y) ∧ w'.cell? ⟨w.heap.size, 0, none⟩ = some (.bool true) ∧ Hid (Below w.heap.size w w') ∧ Hid (w.heap.size < w'.heap.size)) (first | exact HS0.out | assumption | (refine quadS_below (by assumption) ?_; assumption) | (go_split_ands; refine ⟨?_, ?_, ?_, ?_, ?_, ?_⟩ <;> assumption) | (go_split_ands; refine quadS_below (by assumption) ⟨?_, ?_, ?_, ?_, ?_, ?_⟩ <;> assumption)) ((go_at_call 88; refine (ctwo_any _ _ (by omega) (by omega)).mono ?_; rintro e w9 ⟨rfl, hb9⟩))
  all_goals
    go_split_ands
    rename_i HB9 HZ9
    go_wp2_with fail
    go_ret2
    exact ⟨by rw [HE.out]; rfl, HB9.out⟩
theorem datPut_any (b : Bool) (d m y : Int) (w : World) : Calls Tryz.prog 59 #[datV b d m y] w fun e w' => e = .returned (.tuple #[.string (datT (b, d, m, y)).1, .int .i64 (datT (b, d, m, y)).2]) ∧ Below w.heap.size w w' := by
  unfold datT
  by_cases hb : datB (b, d, m, y) = false
  · rw [if_pos hb]; exact dat_no b d m y w hb
  · rw [if_neg hb]
    have hb : datB (b, d, m, y) = true := by simpa using hb
    cases b with
    | false =>
      obtain ⟨rfl, rfl, rfl⟩ : d = 0 ∧ m = 0 ∧ y = 0 := of_decide_eq_true hb
      rw [if_pos rfl]
      exact dat_none w
    | true =>
      rw [if_neg (by simp)]
      exact dat_ok d m y w hb
theorem r24dat_no (b : Bool) (d m y : Int) (w : World) (hb : datB (b, d, m, y) = false) : Calls Tryz.prog 68 #[datV b d m y] w fun e w' => e = .returned (.tuple #[.string ByteArray.empty, .int .i64 5]) ∧ Below w.heap.size w w' := by
  have HM := fun W => Lib.hid (r24MayDate_any b d m y W)
  rw [hb] at HM
  go_enter Tryz.func68, Tryz.ntmps68
  go_wp2_with fail
  refine ((HM _).out).mono ?_
  rintro e w1 ⟨rfl, hb1⟩
  go_wp2_with fail
  go_ret2
  exact ⟨rfl, bthen (below_new _ _) hb1⟩
theorem r24dat_none (w : World) : Calls Tryz.prog 68 #[datV false 0 0 0] w fun e w' => e = .returned (.tuple #[.string ByteArray.empty, .int .i64 0]) ∧ Below w.heap.size w w' := by
  have HM := fun W => Lib.hid (r24MayDate_any false 0 0 0 W)
  rw [show datB (false, 0, 0, 0) = true from rfl] at HM
  have HS : Hid ((w.alloc (.cells #[.bool false, .int .i64 0, .int .i64 0, .int .i64 0] 30)).cell? ⟨w.heap.size, 0, none⟩ = some (.bool false)) := World.cell?_alloc_at _ _ _ _ rfl
  go_enter Tryz.func68, Tryz.ntmps68
  go_wp2_with fail
  refine ((HM _).out).mono ?_
  rintro e w1 ⟨rfl, hb1⟩
  have c0 := ((bcell hb1).1 w.heap.size 0 (by simp)).trans HS.out
  go_wp2_with fail
  go_ret2
  exact ⟨rfl, bthen (below_new _ _) hb1⟩
set_option maxRecDepth 8000 in
set_option maxHeartbeats 4000000 in
theorem r24dat_ok (d m y : Int) (w : World) (hb : datB (true, d, m, y) = true) : Calls Tryz.prog 68 #[datV true d m y] w fun e w' => e = .returned (.tuple #[.string (toB (twoL d ++ twoL m ++ twoL (y - 2000))), .int .i64 0]) ∧ Below w.heap.size w w' := by
  have HM := fun W => Lib.hid (r24MayDate_any true d m y W)
  obtain ⟨x1, x2⟩ : 1 ≤ d ∧ d ≤ daysI m y := of_decide_eq_true hb
  have q1 := days_le m y
  obtain ⟨x3, x4, x5, x6⟩ := days_pos (show 1 ≤ daysI m y by omega)
  have x7 : d ≤ 31 := by omega
  rw [hb] at HM
  obtain ⟨X, hX⟩ : ∃ X, toB (twoL d ++ twoL m ++ twoL (y - 2000)) = X := ⟨_, rfl⟩
  rw [hX]
  have HE : Hid (X = toB (twoL d) ++ toB (twoL m) ++ toB (twoL (y - 2000))) := by
    show _ = _
    rw [← hX, toB_app, toB_app]
  have zA : (toB (twoL d)).size = 2 := rfl
  have zB : (toB (twoL m)).size = 2 := rfl
  have zC' : (toB (twoL (y - 2000))).size = 2 := rfl
  have hw : IntKind.i64.wrap (y - 2000) = y - 2000 := IntWalk.i64_in _ (by omega)
  clear hb x2 q1 hX
  have HS : Hid (∀ o, (w.alloc (.cells #[.bool true, .int .i64 d, .int .i64 m, .int .i64 y] 30)).cell? ⟨w.heap.size, o, none⟩ = (#[Value.bool true, .int .i64 d, .int .i64 m, .int .i64 y] : Array Value)[o]?) := fun o => World.cell?_alloc_at _ _ _ _ rfl
  go_enter Tryz.func68, Tryz.ntmps68
  go_wp2_with fail
  refine ((HM _).out).mono ?_
  rintro e w1 ⟨rfl, hb1⟩
  have hz1 : w.heap.size < w1.heap.size := by have := hb1.size; simp at this; omega
  have c0 := ((bcell hb1).1 w.heap.size 0 (by simp)).trans (HS.out 0)
  have HC : Hid (∀ o, w1.cell? ⟨w.heap.size, o, none⟩ = (#[Value.bool true, .int .i64 d, .int .i64 m, .int .i64 y] : Array Value)[o]?) := fun o => ((bcell hb1).1 w.heap.size o (by simp)).trans (HS.out o)
  have HB1 := Lib.hid (bthen (below_new w _) hb1)
  have HZ1 := Lib.hid hz1
  clear hb1 hz1 HS HM
  go_wp2_with fail
  have HS0 : Hid (w1.drew.cell? ⟨w.heap.size, 1, none⟩ = some (.int .i64 d) ∧ w1.drew.cell? ⟨w.heap.size, 2, none⟩ = some (.int .i64 m) ∧ w1.drew.cell? ⟨w.heap.size, 3, none⟩ = some (.int .i64 y) ∧ w1.drew.cell? ⟨w.heap.size, 0, none⟩ = some (.bool true) ∧ Hid (Below w.heap.size w w1.drew) ∧ Hid (w.heap.size < w1.drew.heap.size)) := ⟨HC.out 1, HC.out 2, HC.out 3, HC.out 0, bdrew HB1.out, HZ1.out⟩
  clear c0 HC HB1 HZ1
  go_region_held3 (fun w' => w'.cell? ⟨w.heap.size, 1, none⟩ = some (.int .i64 d) ∧ w'.cell? ⟨w.heap.size, 2, none⟩ = some (.int .i64 m) ∧ w'.cell? ⟨w.heap.size, 3, none⟩ = some (.int .i64 y) ∧ w'.cell? ⟨w.heap.size, 0, none⟩ = some (.bool true) ∧ Hid (Below w.heap.size w w') ∧ Hid (w.heap.size < w'.heap.size)) (first | exact HS0.out | assumption | (refine quadS_below (by assumption) ?_; assumption) | (go_split_ands; refine ⟨?_, ?_, ?_, ?_, ?_, ?_⟩ <;> assumption) | (go_split_ands; refine quadS_below (by assumption) ⟨?_, ?_, ?_, ?_, ?_, ?_⟩ <;> assumption)) ((go_at_call 95; refine (r24two_any _ _ (by omega) (by omega)).mono ?_; rintro e w9 ⟨rfl, hb9⟩))
  all_goals
    go_split_ands
    rename_i HB9 HZ9
    go_wp2_with fail
    go_ret2
    exact ⟨by rw [HE.out]; rfl, HB9.out⟩
theorem r24datPut_any (b : Bool) (d m y : Int) (w : World) : Calls Tryz.prog 68 #[datV b d m y] w fun e w' => e = .returned (.tuple #[.string (datT (b, d, m, y)).1, .int .i64 (datT (b, d, m, y)).2]) ∧ Below w.heap.size w w' := by
  unfold datT
  by_cases hb : datB (b, d, m, y) = false
  · rw [if_pos hb]; exact r24dat_no b d m y w hb
  · rw [if_neg hb]
    have hb : datB (b, d, m, y) = true := by simpa using hb
    cases b with
    | false =>
      obtain ⟨rfl, rfl, rfl⟩ : d = 0 ∧ m = 0 ∧ y = 0 := of_decide_eq_true hb
      rw [if_pos rfl]
      exact r24dat_none w
    | true =>
      rw [if_neg (by simp)]
      exact r24dat_ok d m y w hb
end Go.Proofs.YtfgopmfaeooadaaGreatDoor
