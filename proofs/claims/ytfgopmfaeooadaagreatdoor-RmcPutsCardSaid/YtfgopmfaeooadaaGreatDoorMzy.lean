/- Layer 26: the reference's Put. Printed by genrmcw.py. -/
import Derived.Test.YtfgopmfaeooadaaGreatDoorMzv
import Derived.Test.YtfgopmfaeooadaaGreatDoorMzq
import Derived.Test.YtfgopmfaeooadaaGreatDoorMzg
namespace Go.Proofs.YtfgopmfaeooadaaGreatDoor
set_option linter.unusedVariables false
open Go.RowKit
set_option linter.unusedSimpArgs false

def negB (n : Int) : Bool := decide (n < 0) && decide (-1800 ≤ n)
def farR (n : Int) : Int := if negB n = true then -n else n
def sideR (b : Bool) (n : Int) : ByteArray := if b = false then ByteArray.empty else if negB n = true then wT else eT
theorem far_alike (b : Bool) (n : Int) (s : Rd) : Alike (wrText (sideT (b, n)) 0 (wrNum 1 3 1 0 1800 (farN (b, n)) s)) (wrText (sideR b n) 0 (wrNum 1 3 1 0 1800 (b, farR n) s)) := by
  cases b with
  | false =>
    have e1 : farN (false, n) = (false, n) := if_pos (.inl rfl)
    have e2 : sideT (false, n) = ByteArray.empty := if_pos (.inl rfl)
    have e3 : sideR false n = ByteArray.empty := if_pos rfl
    have e4 : wrNum 1 3 1 0 1800 (false, farR n) s = wrNum 1 3 1 0 1800 (false, n) s := by
      have : putN false (farR n) 1 3 1 0 1800 = putN false n 1 3 1 0 1800 := by
        unfold putN fitsB farR
        by_cases q : negB n = true <;> simp [q, Int.neg_eq_zero]
      unfold wrNum
      simp only [this]
    rw [e1, e2, e3, e4]
    exact Alike.refl _
  | true =>
    by_cases h1 : n < -1800
    · have e1 : farN (true, n) = (true, n) := if_pos (.inr h1)
      have e2 : farR n = n := if_neg (by simp [negB]; omega)
      rw [e1, e2]
      have h : (wrNum 1 3 1 0 1800 (true, n) s).1 ≠ 0 := fun q => by
        have := fitsB_true (putN_fits (firstE_zero q).2)
        omega
      exact ⟨rfl, fun q => absurd (firstE_zero q).1 h⟩
    by_cases h2 : n < 0
    · have e1 : farN (true, n) = (true, -n) := by unfold farN; rw [if_neg (by simp; omega), if_pos h2]
      have e2 : sideT (true, n) = wT := by unfold sideT; rw [if_neg (by simp; omega), if_pos h2]
      have hb : negB n = true := by simp [negB]; omega
      have e3 : farR n = -n := if_pos hb
      have e4 : sideR true n = wT := by unfold sideR; rw [if_neg (by simp), if_pos hb]
      rw [e1, e2, e3, e4]
      exact Alike.refl _
    · have e1 : farN (true, n) = (true, n) := by unfold farN; rw [if_neg (by simp; omega), if_neg h2]
      have e2 : sideT (true, n) = eT := by unfold sideT; rw [if_neg (by simp; omega), if_neg h2]
      have hb : ¬ negB n = true := by simp [negB]; omega
      have e3 : farR n = n := if_neg hb
      have e4 : sideR true n = eT := by unfold sideR; rw [if_neg (by simp), if_neg hb]
      rw [e1, e2, e3, e4]
      exact Alike.refl _
theorem done_alike {s t : Rd} (h : Alike s t) : wrDone s = wrDone t := by
  obtain ⟨h1, h2⟩ := h
  unfold wrDone
  by_cases q : s.1 = 0
  · rw [h2 q]
  · rw [if_neg q, if_neg (by rw [← h1]; exact q), h1]
set_option maxRecDepth 8000 in
set_option maxHeartbeats 8000000 in
theorem r26Put_any (cb : Bool) (ch : Int) (cm : Int) (cs : Int) (cc : Int) (st : Bool) (lb : Bool) (ln : Int) (ob : Bool) (on : Int) (sb : Bool) (sn : Int) (kb : Bool) (kn : Int) (vb : Bool) (vn : Int) (db : Bool) (dd : Int) (dm : Int) (dy : Int) (w : World) : Calls Tryz.prog 11 #[rmcV cb ch cm cs cc st lb ln ob on sb sn kb kn vb vn db dd dm dy] w (PutPost (putRmc ((cb, ch, cm, cs, cc), st, (lb, ln), (ob, on), (sb, sn), (kb, kn), (db, dd, dm, dy), (vb, vn))) w) := by
  obtain ⟨fb, fn, hfar⟩ : ∃ b n, farN (vb, vn) = (b, n) := ⟨_, _, rfl⟩
  obtain ⟨sd, hsd⟩ : ∃ x, sideT (vb, vn) = x := ⟨_, rfl⟩
  obtain ⟨s1, e1⟩ : ∃ s, Hid (wrClk (cb, ch, cm, cs, cc) (0, []) = s) := ⟨_, rfl⟩
  obtain ⟨s2, e2⟩ : ∃ s, Hid (wrText (stT st) 0 s1 = s) := ⟨_, rfl⟩
  obtain ⟨s3, e3⟩ : ∃ s, Hid (wrAng true (lb, ln) s2 = s) := ⟨_, rfl⟩
  obtain ⟨s4, e4⟩ : ∃ s, Hid (wrAng false (ob, on) s3 = s) := ⟨_, rfl⟩
  obtain ⟨s5, e5⟩ : ∃ s, Hid (wrNum 1 4 2 0 999999 (sb, sn) s4 = s) := ⟨_, rfl⟩
  obtain ⟨s6, e6⟩ : ∃ s, Hid (wrNum 1 3 2 0 36000 (kb, kn) s5 = s) := ⟨_, rfl⟩
  obtain ⟨s7, e7⟩ : ∃ s, Hid (wrDat (db, dd, dm, dy) s6 = s) := ⟨_, rfl⟩
  obtain ⟨s8, e8⟩ : ∃ s, Hid (wrNum 1 3 1 0 1800 (fb, fn) s7 = s) := ⟨_, rfl⟩
  obtain ⟨s9, e9⟩ : ∃ s, Hid (wrText sd 0 s8 = s) := ⟨_, rfl⟩
  have HPUT : Hid (putRmc ((cb, ch, cm, cs, cc), st, (lb, ln), (ob, on), (sb, sn), (kb, kn), (db, dd, dm, dy), (vb, vn)) = wrDone s9) := by
    show _ = _
    unfold putRmc
    show wrDone (wrText (sideT (vb, vn)) 0 (wrNum 1 3 1 0 1800 (farN (vb, vn)) (wrDat (db, dd, dm, dy) (wrNum 1 3 2 0 36000 (kb, kn) (wrNum 1 4 2 0 999999 (sb, sn) (wrAng false (ob, on) (wrAng true (lb, ln) (wrText (stT st) 0 (wrClk (cb, ch, cm, cs, cc) (0, [])))))))))) = _
    rw [hfar, hsd, e1.out, e2.out, e3.out, e4.out, e5.out, e6.out, e7.out, e8.out, e9.out]
  have l1 : s1.2.length ≤ 1 := by rw [← e1.out]; unfold wrClk; rw [wrText_len]; exact Nat.le_refl _
  have l2 : s2.2.length ≤ 2 := by rw [← e2.out]; rw [wrText_len]; omega
  have l3 : s3.2.length ≤ 4 := by rw [← e3.out]; rw [wrAng_len]; omega
  have l4 : s4.2.length ≤ 6 := by rw [← e4.out]; rw [wrAng_len]; omega
  have l5 : s5.2.length ≤ 7 := by rw [← e5.out]; rw [wrNum_len]; omega
  have l6 : s6.2.length ≤ 8 := by rw [← e6.out]; rw [wrNum_len]; omega
  have l7 : s7.2.length ≤ 9 := by rw [← e7.out]; unfold wrDat; rw [wrText_len]; omega
  have l8 : s8.2.length ≤ 10 := by rw [← e8.out]; rw [wrNum_len]; omega
  have l9 : s9.2.length ≤ 11 := by rw [← e9.out]; rw [wrText_len]; omega
  rw [HPUT.out]
  clear HPUT
  obtain ⟨X, hX⟩ : ∃ X, wrDone s9 = X := ⟨_, rfl⟩
  have HX := Lib.hid hX
  rw [hX]
  clear hX
  obtain ⟨t8, f8⟩ : ∃ s, Hid (wrNum 1 3 1 0 1800 (vb, farR vn) s7 = s) := ⟨_, rfl⟩
  obtain ⟨t9, f9⟩ : ∃ s, Hid (wrText (sideR vb vn) 0 t8 = s) := ⟨_, rfl⟩
  have HX2 : Hid (wrDone t9 = X) := by
    show _ = _
    rw [← HX.out, ← f9.out, ← f8.out, ← e9.out, ← e8.out, ← hfar, ← hsd]
    exact (done_alike (far_alike vb vn s7)).symm
  have k8 : t8.2.length ≤ 10 := by rw [← f8.out, wrNum_len]; omega
  have k9 : t9.2.length ≤ 11 := by rw [← f9.out, wrText_len]; omega
  have e7' : Hid (wrText (datT (db, dd, dm, dy)).1 (datT (db, dd, dm, dy)).2 s6 = s7) := e7
  have HDA := fun W => Lib.hid (r24datPut_any db dd dm dy W)
  generalize (datT (db, dd, dm, dy)).1 = DT at *
  generalize (datT (db, dd, dm, dy)).2 = DE at *
  clear HX hfar hsd e7 e8 e9 l8 l9
  obtain ⟨FN, HFN⟩ : ∃ x, Hid (farR vn = x) := ⟨_, rfl⟩
  obtain ⟨SR, HSR⟩ : ∃ x, Hid (sideR vb vn = x) := ⟨_, rfl⟩
  obtain ⟨SD, HSD⟩ : ∃ x, Hid ((if negB vn = true then wT else eT) = x) := ⟨_, rfl⟩
  rw [HFN.out] at f8
  rw [HSR.out] at f9
  have HM0 : Hid (∀ o, (w.alloc (.cells (rmcC cb ch cm cs cc st lb ln ob on sb sn kb kn vb vn db dd dm dy) 32)).cell? ⟨w.heap.size, o, none⟩ = (rmcC cb ch cm cs cc st lb ln ob on sb sn kb kn vb vn db dd dm dy)[o]?) := fun o => World.cell?_alloc_at _ _ _ _ rfl
  have HB0 := Lib.hid (below_new w (.cells (rmcC cb ch cm cs cc st lb ln ob on sb sn kb kn vb vn db dd dm dy) 32))
  have HZ0 : Hid ((w.alloc (.cells (rmcC cb ch cm cs cc st lb ln ob on sb sn kb kn vb vn db dd dm dy) 32)).heap.size = w.heap.size + 1) := by show _ = _; simp
  go_enter Tryz.func11, Tryz.ntmps11
  go_wp2_with fail
  generalize hW1 : w.alloc (.cells (rmcC cb ch cm cs cc st lb ln ob on sb sn kb kn vb vn db dd dm dy) 32) = W1 at *
  clear hW1
  refine (r26Cols_any _).mono ?_
  rintro r w2 ⟨rfl, hc2, hz2, hb2⟩
  have hb3 := below_new w2 (.cells #[.slice none 0 0, .int .i64 0, .int .i64 0] 65)
  have HR := Lib.hid (rowNew (w := w2))
  have hz0 := HZ0.out
  have HM : Hid (∀ o, (w2.alloc (.cells #[.slice none 0 0, .int .i64 0, .int .i64 0] 65)).cell? ⟨w.heap.size, o, none⟩ = (rmcC cb ch cm cs cc st lb ln ob on sb sn kb kn vb vn db dd dm dy)[o]?) := fun o => ((bcell hb3).1 _ o (by omega)).trans (((bcell hb2).1 _ o (by omega)).trans (HM0.out o))
  have HCC : Hid (∀ o, (w2.alloc (.cells #[.slice none 0 0, .int .i64 0, .int .i64 0] 65)).cell? ⟨w.heap.size + 1, o, none⟩ = colsM[o]?) := fun o => by rw [← hz0]; exact ((bcell hb3).1 _ o (by omega)).trans (hc2 o)
  have HB2 : Hid (Below w.heap.size w (w2.alloc (.cells #[.slice none 0 0, .int .i64 0, .int .i64 0] 65))) := Below.trans HB0.out ((hb2.mono (by omega)).trans (hb3.mono (by omega)))
  obtain ⟨S, hS⟩ : ∃ S, (fun k => k < w2.heap.size + 1) = S := ⟨_, rfl⟩
  have sW : Hid (∀ k, k < w2.heap.size + 1 → S k) := fun k hk => by rw [← hS]; exact hk
  rw [hS] at HR
  have hgw : w.heap.size < w2.heap.size := by omega
  have hgc : w.heap.size + 1 < w2.heap.size := by omega
  clear hb2 hb3 hS HM0 HB0 hc2 hz2
  go_upto_region 3 with fail
  generalize hW3 : w2.alloc (.cells #[.slice none 0 0, .int .i64 0, .int .i64 0] 65) = W3 at *
  clear hW3 HZ0 hz0
  have HK0 : Hid (RowI S w2.heap.size (0, []) W3 ∧ Kept S w2.heap.size W3 W3) := ⟨HR.out, Kept.refl _ _ _⟩
  clear HR
  generalize w2.heap.size = g at *
  have sM : Hid (S w.heap.size ∧ w.heap.size ≠ g) := ⟨sW.out _ (by omega), by omega⟩
  have sC : Hid (S (w.heap.size + 1) ∧ w.heap.size + 1 ≠ g) := ⟨sW.out _ (by omega), by omega⟩
  have m0 := (HK0.out.2.cell (o := 0) sM.out.1 sM.out.2).trans (HM.out 0)
  have m1 := (HK0.out.2.cell (o := 1) sM.out.1 sM.out.2).trans (HM.out 1)
  have m2 := (HK0.out.2.cell (o := 2) sM.out.1 sM.out.2).trans (HM.out 2)
  have m3 := (HK0.out.2.cell (o := 3) sM.out.1 sM.out.2).trans (HM.out 3)
  have m4 := (HK0.out.2.cell (o := 4) sM.out.1 sM.out.2).trans (HM.out 4)
  go_wp2_with fail
  refine (r25PutClock_any e1 HK0.out.1 (by decide)).mono ?_
  rintro r x1 ⟨rfl, hp, hk⟩
  have HK1 : Hid (RowI S g s1 x1 ∧ Kept S g W3 x1) := ⟨hp, HK0.out.2.trans hk⟩
  clear hp hk HK0 m0 m1 m2 m3 m4
  have m0 := (HK1.out.2.cell (o := 5) sM.out.1 sM.out.2).trans (HM.out 5)
  try dsimp only
  repeat (fail_if_success (show Code.wp _ (Code.seq (Code.region 4 _ _) _) _ _ _)
          first | go_values | go_skip | go_guarded | go_step | go_upon | go_back | (simp only [Int.not_lt, Int.not_le] at *; go_simp) | (go_ite <;> go_prune <;> (try go_simp)))
  go_cut [] (fun wx => Hid (RowI S g s2 wx ∧ Kept S g W3 wx))
  case first =>
    cases st
    all_goals
      go_wp2_with fail
      refine (rowText e2 HK1.out.1 (by omega)).mono ?_
      rintro r x ⟨rfl, hp, hk⟩
      have HF : Hid (RowI S g s2 x ∧ Kept S g W3 x) := ⟨hp, HK1.out.2.trans hk⟩
      clear hp hk
      go_wp2_with fail
      go_meet
      exact HF
  case rest =>
  have HK2 := hcut
  clear hcut HK1 m0
  have m0 := (HK2.out.2.cell (o := 6) sM.out.1 sM.out.2).trans (HM.out 6)
  have m1 := (HK2.out.2.cell (o := 7) sM.out.1 sM.out.2).trans (HM.out 7)
  go_wp2_with fail
  refine (rowAng e3 HK2.out.1 (by omega)).mono ?_
  rintro r x3 ⟨rfl, hp, hk⟩
  have HK3 : Hid (RowI S g s3 x3 ∧ Kept S g W3 x3) := ⟨hp, HK2.out.2.trans hk⟩
  clear hp hk HK2 m0 m1
  have m0 := (HK3.out.2.cell (o := 8) sM.out.1 sM.out.2).trans (HM.out 8)
  have m1 := (HK3.out.2.cell (o := 9) sM.out.1 sM.out.2).trans (HM.out 9)
  go_wp2_with fail
  refine (rowAng e4 HK3.out.1 (by omega)).mono ?_
  rintro r x4 ⟨rfl, hp, hk⟩
  have HK4 : Hid (RowI S g s4 x4 ∧ Kept S g W3 x4) := ⟨hp, HK3.out.2.trans hk⟩
  clear hp hk HK3 m0 m1
  go_upto_region 9 with fail
  have m0 := (HK4.out.2.cell (o := 10) sM.out.1 sM.out.2).trans (HM.out 10)
  have m1 := (HK4.out.2.cell (o := 11) sM.out.1 sM.out.2).trans (HM.out 11)
  have c0 := (HK4.out.2.cell (o := 0) sC.out.1 sC.out.2).trans (HCC.out 0)
  have c1 := (HK4.out.2.cell (o := 1) sC.out.1 sC.out.2).trans (HCC.out 1)
  have c2 := (HK4.out.2.cell (o := 2) sC.out.1 sC.out.2).trans (HCC.out 2)
  have c3 := (HK4.out.2.cell (o := 3) sC.out.1 sC.out.2).trans (HCC.out 3)
  have c4 := (HK4.out.2.cell (o := 4) sC.out.1 sC.out.2).trans (HCC.out 4)
  go_cut [] (fun wx => Hid (RowI S g s5 wx ∧ Kept S g W3 wx))
  case first =>
    go_region_with ((go_at_call 67; refine (rowNum e5 (HK4.out.1.keep (bdrew (Below.refl _ _))) (by omega)).mono ?_; rintro r y3 ⟨rfl, hp3, hk3⟩))
    all_goals go_wp2_with fail
    all_goals go_meet
    all_goals exact Lib.hid ⟨hp3, HK4.out.2.trans hk3.undrew⟩
  case rest =>
  have HK5 := hcut
  clear hcut HK4 m0 m1 c0 c1 c2 c3 c4
  go_upto_region 10 with fail
  have m0 := (HK5.out.2.cell (o := 12) sM.out.1 sM.out.2).trans (HM.out 12)
  have m1 := (HK5.out.2.cell (o := 13) sM.out.1 sM.out.2).trans (HM.out 13)
  have c0 := (HK5.out.2.cell (o := 5) sC.out.1 sC.out.2).trans (HCC.out 5)
  have c1 := (HK5.out.2.cell (o := 6) sC.out.1 sC.out.2).trans (HCC.out 6)
  have c2 := (HK5.out.2.cell (o := 7) sC.out.1 sC.out.2).trans (HCC.out 7)
  have c3 := (HK5.out.2.cell (o := 8) sC.out.1 sC.out.2).trans (HCC.out 8)
  have c4 := (HK5.out.2.cell (o := 9) sC.out.1 sC.out.2).trans (HCC.out 9)
  go_cut [] (fun wx => Hid (RowI S g s6 wx ∧ Kept S g W3 wx))
  case first =>
    go_region_with ((go_at_call 67; refine (rowNum e6 (HK5.out.1.keep (bdrew (Below.refl _ _))) (by omega)).mono ?_; rintro r y3 ⟨rfl, hp3, hk3⟩))
    all_goals go_wp2_with fail
    all_goals go_meet
    all_goals exact Lib.hid ⟨hp3, HK5.out.2.trans hk3.undrew⟩
  case rest =>
  have HK6 := hcut
  clear hcut HK5 m0 m1 c0 c1 c2 c3 c4
  have m0 := (HK6.out.2.cell (o := 16) sM.out.1 sM.out.2).trans (HM.out 16)
  have m1 := (HK6.out.2.cell (o := 17) sM.out.1 sM.out.2).trans (HM.out 17)
  have m2 := (HK6.out.2.cell (o := 18) sM.out.1 sM.out.2).trans (HM.out 18)
  have m3 := (HK6.out.2.cell (o := 19) sM.out.1 sM.out.2).trans (HM.out 19)
  go_wp2_with fail
  refine (HDA _).out.mono ?_
  rintro r y7 ⟨rfl, hb⟩
  have HK6a : Hid (RowI S g s6 y7 ∧ Kept S g W3 y7) := ⟨HK6.out.1.keep hb, HK6.out.2.trans (Kept.of_below hb HK6.out.1.bd)⟩
  clear hb HK6 m0 m1 m2 m3
  go_wp2_with fail
  refine (rowText e7' HK6a.out.1 (by omega)).mono ?_
  rintro r x7 ⟨rfl, hp, hk⟩
  have HK7 : Hid (RowI S g s7 x7 ∧ Kept S g W3 x7) := ⟨hp, HK6a.out.2.trans hk⟩
  clear hp hk HK6a HDA
  have m0 := (HK7.out.2.cell (o := 14) sM.out.1 sM.out.2).trans (HM.out 14)
  have m1 := (HK7.out.2.cell (o := 15) sM.out.1 sM.out.2).trans (HM.out 15)
  have hbv := below_new x7 (numO vb vn)
  have HKK : Hid (∀ W, Below x7.heap.size x7 W → RowI S g s7 W ∧ Kept S g W3 W) := fun W hb => ⟨HK7.out.1.keep hb, HK7.out.2.trans (Kept.of_below hb HK7.out.1.bd)⟩
  have HV8 : Hid (Below x7.heap.size x7 (x7.alloc (numO vb vn)) ∧ AtC (x7.alloc (numO vb vn)) x7.heap.size #[Value.bool vb, .int .i64 vn]) := ⟨hbv, fun o => World.cell?_alloc_at _ _ _ _ rfl⟩
  have HVF : Hid (∀ o, (x7.alloc (numO vb vn)).frozen? ⟨x7.heap.size, o, none⟩ = false) := fun o => by rw [frozen?_alloc_cells]; exact frozen_past _ _ _ (Nat.le_refl _)
  clear hbv
  go_upto_region 14 with fail
  clear m0 m1 HK7
  generalize hW8 : x7.alloc (numO vb vn) = W8 at *
  clear hW8
  generalize x7.heap.size = D at *
  try dsimp only
  repeat (fail_if_success (show Code.wp _ (Code.seq (Code.region 15 _ _) _) _ _ _)
          first | go_values | go_skip | go_guarded | go_step | go_upon | go_back | (simp only [Int.not_lt, Int.not_le] at *; go_simp) | (go_ite <;> go_prune <;> (try go_simp)))
  go_cut [9] (fun v wx => v = .string SD ∧ Hid (Below D x7 wx ∧ AtC wx D #[Value.bool vb, .int .i64 FN]))
  case first =>
    have n0 := HV8.out.2 0
    have n1 := HV8.out.2 1
    have z1 := HVF.out 1
    rcases (by omega : vn < -1800 ∨ (-1800 ≤ vn ∧ vn < 0) ∨ 0 ≤ vn) with h | ⟨h, h'⟩ | h
    · have hb : ¬ negB vn = true := by simp [negB]; omega
      have HA : Hid (eT = SD) := (if_neg hb).symm.trans HSD.out
      have HB : Hid (vn = FN) := (if_neg hb).symm.trans HFN.out
      have i1 : vn < 0 := by omega
      have i2 : decide (-1800 ≤ vn) = false := decide_eq_false (by omega)
      clear hb h HSD HFN HSR
      go_wp2_with fail
      go_meet
      exact ⟨by rw [← HA.out]; rfl, by rw [← HB.out]; exact HV8⟩
    · have hb : negB vn = true := by simp [negB]; omega
      have HA : Hid (wT = SD) := (if_pos hb).symm.trans HSD.out
      have HB : Hid (-vn = FN) := (if_pos hb).symm.trans HFN.out
      have hw : IntKind.i64.wrap (-vn) = -vn := IntWalk.i64_in _ (by omega)
      have HQ : Hid (Below D x7 (W8.setCell ⟨D, 1, none⟩ (.int .i64 (-vn))) ∧ AtC (W8.setCell ⟨D, 1, none⟩ (.int .i64 (-vn))) D #[Value.bool vb, .int .i64 (-vn)]) := ⟨below_set HV8.out.1 (Nat.le_refl _), HV8.out.2.set 1 (.int .i64 (-vn)) (by simp)⟩
      clear hb HSD HFN HSR
      go_wp2_with fail
      go_meet
      exact ⟨by rw [← HA.out]; rfl, by rw [← HB.out]; exact HQ⟩
    · have hb : ¬ negB vn = true := by simp [negB]; omega
      have HA : Hid (eT = SD) := (if_neg hb).symm.trans HSD.out
      have HB : Hid (vn = FN) := (if_neg hb).symm.trans HFN.out
      have i1 : decide (vn < 0) = false := decide_eq_false (by omega)
      clear hb h HSD HFN HSR
      go_wp2_with fail
      go_meet
      exact ⟨by rw [← HA.out]; rfl, by rw [← HB.out]; exact HV8⟩
  case rest =>
  obtain ⟨rfl, hC⟩ := hcut
  clear HV8 HVF
  try dsimp only
  repeat (fail_if_success (show Code.wp _ (Code.seq (Code.region 18 _ _) _) _ _ _)
          first | go_values | go_skip | go_guarded | go_step | go_upon | go_back | (simp only [Int.not_lt, Int.not_le] at *; go_simp) | (go_ite <;> go_prune <;> (try go_simp)))
  go_cut [9] (fun v wx => v = .string SR ∧ Hid (Below D x7 wx ∧ AtC wx D #[Value.bool vb, .int .i64 FN]))
  case first =>
    have n0 := hC.out.2 0
    cases vb
    · have HA : Hid (ByteArray.empty = SR) := HSR.out
      clear HSD HFN HSR
      go_wp2_with fail
      go_meet
      exact ⟨by rw [← HA.out]; rfl, hC⟩
    · have HA : Hid (SD = SR) := HSD.out.symm.trans HSR.out
      clear HSD HFN HSR
      go_wp2_with fail
      go_meet
      exact ⟨by rw [← HA.out], hC⟩
  case rest =>
  obtain ⟨rfl, hC9⟩ := hcut
  clear hC HSD HFN HSR
  have HK9 := Lib.hid (HKK.out _ hC9.out.1)
  have n0 := hC9.out.2 0
  have n1 := hC9.out.2 1
  have c0 := (HK9.out.2.cell (o := 10) sC.out.1 sC.out.2).trans (HCC.out 10)
  have c1 := (HK9.out.2.cell (o := 11) sC.out.1 sC.out.2).trans (HCC.out 11)
  have c2 := (HK9.out.2.cell (o := 12) sC.out.1 sC.out.2).trans (HCC.out 12)
  have c3 := (HK9.out.2.cell (o := 13) sC.out.1 sC.out.2).trans (HCC.out 13)
  have c4 := (HK9.out.2.cell (o := 14) sC.out.1 sC.out.2).trans (HCC.out 14)
  go_upto_region 20 with fail
  go_cut [] (fun wx => Hid (RowI S g t8 wx ∧ Kept S g W3 wx))
  case first =>
    go_region_with ((go_at_call 67; refine (rowNum f8 (HK9.out.1.keep (bdrew (Below.refl _ _))) (by omega)).mono ?_; rintro r y3 ⟨rfl, hp3, hk3⟩))
    all_goals go_wp2_with fail
    all_goals go_meet
    all_goals exact Lib.hid ⟨hp3, HK9.out.2.trans hk3.undrew⟩
  case rest =>
  have HK10 := hcut
  clear hcut HK9 hC9 HKK n0 n1 c0 c1 c2 c3 c4
  go_wp2_with fail
  refine (rowText f9 HK10.out.1 (by omega)).mono ?_
  rintro r x11 ⟨rfl, hp, hk⟩
  have HK11 : Hid (RowI S g t9 x11 ∧ Kept S g W3 x11) := ⟨hp, HK10.out.2.trans hk⟩
  clear hp hk HK10
  have HB6 : Hid (Below w.heap.size w _) := HB2.out.trans (HK11.out.2.below (B := w.heap.size) (by omega) (fun k hk => sW.out k (by omega)))
  go_wp2_with fail
  refine (rowDone HK11.out.1 (by omega)).mono ?_
  intro r w7 h7
  have h8 := DonePost.put HB6.out h7
  rw [HX2.out] at h8
  obtain ⟨v, rfl, h9⟩ := h8
  have H9 := Lib.hid h9
  clear h7 h9
  go_wp2_with fail
  go_ret2
  exact ⟨v, rfl, H9.out⟩
end Go.Proofs.YtfgopmfaeooadaaGreatDoor
