/- Layer 26: Take. Printed by genrmct.py. -/
import Derived.Test.YtfgopmfaeooadaaGreatDoorMzr
namespace Go.Proofs.YtfgopmfaeooadaaGreatDoor
set_option linter.unusedVariables false
open Go.RowKit
set_option linter.unusedSimpArgs false

abbrev rmcTV (x : RmcT) : Value := rmcV x.1.1 x.1.2.1 x.1.2.2.1 x.1.2.2.2.1 x.1.2.2.2.2 x.2.1 x.2.2.1.1 x.2.2.1.2 x.2.2.2.1.1 x.2.2.2.1.2 x.2.2.2.2.1.1 x.2.2.2.2.1.2 x.2.2.2.2.2.1.1 x.2.2.2.2.2.1.2 x.2.2.2.2.2.2.2.1 x.2.2.2.2.2.2.2.2 x.2.2.2.2.2.2.1.1 x.2.2.2.2.2.2.1.2.1 x.2.2.2.2.2.2.1.2.2.1 x.2.2.2.2.2.2.1.2.2.2
def RmcPost (x : RmcT × Int) (w : World) (r : Ending) (w' : World) : Prop := r = .returned (.tuple #[rmcTV x.1, .int .i64 x.2]) ∧ Below w.heap.size w w'
theorem rmc_size : (Tryz.prog.info? 32).map (·.size) = some 20 := by kernel_rfl
theorem rmc_load {w : World} {b : Nat} {C : Array Value} (hC : C.size = 20) (h : w.rangeAt b 0 C.toList) : (loadVar 32 ⟨b, 0, none⟩).run Tryz.prog w = .ok (.agg C) w := by
  have := run_loadVar_mid (P := Tryz.prog) w b 0 32 C.toList _ h Tryz.underlying32 rfl (by rw [rmc_size, Array.length_toList, hC])
  simpa using this
abbrev eyeP (g : Nat) : Obj := .cells #[.pointer (some ⟨g, 0, none⟩)] 43
abbrev fnO (P : Nat) : Obj := .cells #[.func (.func 16) #[] #[.pointer (some ⟨P, 0, none⟩)]] 45
abbrev stepsT (P M N : Nat) : Array Value := #[.func (.func 18) #[] #[.pointer (some ⟨P, 0, none⟩), .pointer (some ⟨M, 0, none⟩), .pointer (some ⟨N, 0, none⟩)], .func (.func 21) #[] #[.pointer (some ⟨P, 0, none⟩), .pointer (some ⟨M, 0, none⟩)], .func (.func 23) #[] #[.pointer (some ⟨P, 0, none⟩), .pointer (some ⟨M, 0, none⟩)], .func (.func 25) #[] #[.pointer (some ⟨P, 0, none⟩), .pointer (some ⟨M, 0, none⟩)], .func (.func 26) #[] #[.pointer (some ⟨P, 0, none⟩), .pointer (some ⟨M, 0, none⟩)], .func (.func 29) #[] #[.pointer (some ⟨P, 0, none⟩), .pointer (some ⟨M, 0, none⟩)], .func (.func 31) #[] #[.pointer (some ⟨P, 0, none⟩), .pointer (some ⟨M, 0, none⟩), .pointer (some ⟨N, 0, none⟩)], .func (.func 33) #[] #[.pointer (some ⟨P, 0, none⟩), .pointer (some ⟨M, 0, none⟩)], .func (.func 35) #[] #[.pointer (some ⟨P, 0, none⟩)]]
theorem run_store_funcV {P : Program} {w : World} {a : Addr} {m : Mode} (f : _) (x : _) (y : _) : (store a (.func f x y) m).run P w = stored P w a (.func f x y) m := run_store P w a _ m rfl
theorem rmc_taken {R : List ByteArray} {cb : Bool} {ch : Int} {cm : Int} {cs : Int} {cc : Int} {st : Bool} {lb : Bool} {ln : Int} {ob : Bool} {on : Int} {sb : Bool} {sn : Int} {kb : Bool} {kn : Int} {vb : Bool} {vn : Int} {db : Bool} {dd : Int} {dm : Int} {dy : Int} {r1 r2 r3 r4 r5 r6 r7 r8 r9 : Rd} (hl : R.length = 11 ∨ R.length = 12) (h1 : Hid (rdClk (0, R) = ((cb, ch, cm, cs, cc), r1))) (h2 : Hid (rdSt r1 = (st, r2))) (h3 : Hid (rdAng true r2 = ((lb, ln), r3))) (h4 : Hid (rdAng false r3 = ((ob, on), r4))) (h5 : Hid (rdNum 1 4 2 0 999999 r4 = ((sb, sn), r5))) (h6 : Hid (rdNum 1 3 2 0 36000 r5 = ((kb, kn), r6))) (h7 : Hid (rdDat r6 = ((db, dd, dm, dy), r7))) (h8 : Hid (rdVar r7 = ((vb, vn), r8))) (h9 : Hid (rdMode r8 = r9)) :
    takeRmc R = if r9.1 = 0 then (((cb, ch, cm, cs, cc), st, (lb, ln), (ob, on), (sb, sn), (kb, kn), (db, dd, dm, dy), (vb, vn)), 0) else (zeroM, r9.1) := by
  have hR : rmcR (0, R) = (((cb, ch, cm, cs, cc), st, (lb, ln), (ob, on), (sb, sn), (kb, kn), (db, dd, dm, dy), (vb, vn)), r8) := by
    unfold rmcR
    simp only [seqR, h1.out, h2.out, h3.out, h4.out, h5.out, h6.out, h7.out, h8.out]
  unfold takeRmc
  rw [if_neg (fun q => by omega), hR]
  simp only
  rw [h9.out]
set_option maxRecDepth 8000 in
set_option maxHeartbeats 16000000 in
theorem rmcTake_ok (A : Option Addr) (n c : Nat) (R : List ByteArray) (w : World) (hl : R.length = n) (hA : A = none → c = 0) (hs : Strs w w.heap.size A R) (hz : ∀ t ∈ R, t.size ≤ 1000000) (hkn : Hid (n = 11 ∨ n = 12)) :
    Calls Tryz.prog 7 #[.slice A n c] w (RmcPost (takeRmc R) w) := by
  obtain ⟨cb, ch, cm, cs, cc, r1, h1⟩ : ∃ cb ch cm cs cc u, Hid (rdClk (0, R) = ((cb, ch, cm, cs, cc), u)) := ⟨_, _, _, _, _, _, rfl⟩
  obtain ⟨st, r2, h2⟩ : ∃ st u, Hid (rdSt r1 = (st, u)) := ⟨_, _, rfl⟩
  obtain ⟨lb, ln, r3, h3⟩ : ∃ lb ln u, Hid (rdAng true r2 = ((lb, ln), u)) := ⟨_, _, _, rfl⟩
  obtain ⟨ob, on, r4, h4⟩ : ∃ ob on u, Hid (rdAng false r3 = ((ob, on), u)) := ⟨_, _, _, rfl⟩
  obtain ⟨sb, sn, r5, h5⟩ : ∃ sb sn u, Hid (rdNum 1 4 2 0 999999 r4 = ((sb, sn), u)) := ⟨_, _, _, rfl⟩
  obtain ⟨kb, kn, r6, h6⟩ : ∃ kb kn u, Hid (rdNum 1 3 2 0 36000 r5 = ((kb, kn), u)) := ⟨_, _, _, rfl⟩
  obtain ⟨db, dd, dm, dy, r7, h7⟩ : ∃ db dd dm dy u, Hid (rdDat r6 = ((db, dd, dm, dy), u)) := ⟨_, _, _, _, _, rfl⟩
  obtain ⟨vb, vn, r8, h8⟩ : ∃ vb vn u, Hid (rdVar r7 = ((vb, vn), u)) := ⟨_, _, _, rfl⟩
  obtain ⟨r9, h9⟩ : ∃ u, Hid (rdMode r8 = u) := ⟨_, rfl⟩
  obtain ⟨X, hX⟩ : ∃ X, takeRmc R = X := ⟨_, rfl⟩
  have HT : Hid (X = if r9.1 = 0 then (((cb, ch, cm, cs, cc), st, (lb, ln), (ob, on), (sb, sn), (kb, kn), (db, dd, dm, dy), (vb, vn)), 0) else (zeroM, r9.1)) := hX.symm.trans (rmc_taken (by rw [hl]; exact hkn.out) h1 h2 h3 h4 h5 h6 h7 h8 h9)
  rw [hX]
  clear hX
  have HB0 := Lib.hid (below_new w (.cells (rmcC false 0 0 0 0 false false 0 false 0 false 0 false 0 false 0 false 0 0 0) 32))
  have HL := Lib.hid (eyeLook (c := c) hA ((hs.below HB0.out (Nat.le_refl _)).more HB0.out.size) (by have := hkn.out; omega) hz)
  rw [hl] at HL
  have HR0 : Hid (∀ o, (w.alloc (.cells (rmcC false 0 0 0 0 false false 0 false 0 false 0 false 0 false 0 false 0 0 0) 32)).cell? ⟨w.heap.size, o, none⟩ = (rmcC false 0 0 0 0 false false 0 false 0 false 0 false 0 false 0 false 0 0 0)[o]?) := fun o => World.cell?_alloc_at _ _ _ _ rfl
  have HR1 : Hid (∀ o, (w.alloc (.cells (rmcC false 0 0 0 0 false false 0 false 0 false 0 false 0 false 0 false 0 0 0) 32)).frozen? ⟨w.heap.size, o, none⟩ = false) := fun o => by rw [frozen?_alloc_cells]; exact frozen_past _ _ _ (Nat.le_refl _)
  have HZ0 : Hid ((w.alloc (.cells (rmcC false 0 0 0 0 false false 0 false 0 false 0 false 0 false 0 false 0 0 0) 32)).heap.size = w.heap.size + 1) := by show _ = _; simp
  have hsf := @run_store_funcV Tryz.prog
  clear hs hA hz hl
  go_enter Tryz.func7, Tryz.ntmps7
  try dsimp only
  repeat (fail_if_success (show Code.wp _ (Code.seq (Code.region 1 _ _) _) _ _ _)
          first | go_values | go_skip | go_guarded | go_step | go_upon | go_back | (simp only [Int.not_lt, Int.not_le] at *; go_simp) | (go_ite <;> go_prune <;> (try go_simp)))
  go_cut [] (fun wx => wx = w.alloc (.cells (rmcC false 0 0 0 0 false false 0 false 0 false 0 false 0 false 0 false 0 0 0) 32))
  case first =>
    rcases hkn.out with e | e
    · have i1 : ((n : Int) != 11) = false := by rw [bne_eq_false_iff_eq]; omega
      clear e
      go_wp2_with fail
      go_meet
      rfl
    · have i1 : ((n : Int) != 11) = true := by rw [bne_iff_ne]; omega
      have i2 : ((n : Int) != 12) = false := by rw [bne_eq_false_iff_eq]; omega
      clear e
      go_wp2_with fail
      go_meet
      rfl
  case rest =>
  subst hcut
  generalize hW0 : w.alloc (.cells (rmcC false 0 0 0 0 false false 0 false 0 false 0 false 0 false 0 false 0 0 0) 32) = W0 at *
  clear hW0
  go_wp2_with fail
  refine HL.out.mono ?_
  rintro r w1 ⟨g, rfl, hx1, hg1, hz1, hb1⟩
  have hbP := below_new w1 (eyeP g)
  have hbM := below_new (w1.alloc (eyeP g)) (.cells (rmcC false 0 0 0 0 false false 0 false 0 false 0 false 0 false 0 false 0 0 0) 32)
  have hbN := below_new ((w1.alloc (eyeP g)).alloc (.cells (rmcC false 0 0 0 0 false false 0 false 0 false 0 false 0 false 0 false 0 0 0) 32)) (fnO w1.heap.size)
  have hbB := below_new (((w1.alloc (eyeP g)).alloc (.cells (rmcC false 0 0 0 0 false false 0 false 0 false 0 false 0 false 0 false 0 0 0) 32)).alloc (fnO w1.heap.size)) (.cells (stepsT w1.heap.size (w1.heap.size + 1) (w1.heap.size + 1 + 1)) 1)
  have hzP : (w1.alloc (eyeP g)).heap.size = w1.heap.size + 1 := by simp
  have hzM : ((w1.alloc (eyeP g)).alloc (.cells (rmcC false 0 0 0 0 false false 0 false 0 false 0 false 0 false 0 false 0 0 0) 32)).heap.size = w1.heap.size + 1 + 1 := by simp
  have hzN : (((w1.alloc (eyeP g)).alloc (.cells (rmcC false 0 0 0 0 false false 0 false 0 false 0 false 0 false 0 false 0 0 0) 32)).alloc (fnO w1.heap.size)).heap.size = w1.heap.size + 1 + 1 + 1 := by simp
  have hzW : ((((w1.alloc (eyeP g)).alloc (.cells (rmcC false 0 0 0 0 false false 0 false 0 false 0 false 0 false 0 false 0 0 0) 32)).alloc (fnO w1.heap.size)).alloc (.cells (stepsT w1.heap.size (w1.heap.size + 1) (w1.heap.size + 1 + 1)) 1)).heap.size = w1.heap.size + 1 + 1 + 1 + 1 := by simp
  have hb14 : Below w1.heap.size w1 ((((w1.alloc (eyeP g)).alloc (.cells (rmcC false 0 0 0 0 false false 0 false 0 false 0 false 0 false 0 false 0 0 0) 32)).alloc (fnO w1.heap.size)).alloc (.cells (stepsT w1.heap.size (w1.heap.size + 1) (w1.heap.size + 1 + 1)) 1)) := bthen (bthen (bthen hbP hbM) hbN) hbB
  have pW : Hid (((((w1.alloc (eyeP g)).alloc (.cells (rmcC false 0 0 0 0 false false 0 false 0 false 0 false 0 false 0 false 0 0 0) 32)).alloc (fnO w1.heap.size)).alloc (.cells (stepsT w1.heap.size (w1.heap.size + 1) (w1.heap.size + 1 + 1)) 1)).cell? ⟨w1.heap.size, 0, none⟩ = some (.pointer (some ⟨g, 0, none⟩))) := (World.cell?_alloc_past _ _ _ (by omega)).trans ((World.cell?_alloc_past _ _ _ (by omega)).trans ((World.cell?_alloc_past _ _ _ (by omega)).trans (World.cell?_alloc_at _ _ _ _ rfl)))
  have nW : Hid (((((w1.alloc (eyeP g)).alloc (.cells (rmcC false 0 0 0 0 false false 0 false 0 false 0 false 0 false 0 false 0 0 0) 32)).alloc (fnO w1.heap.size)).alloc (.cells (stepsT w1.heap.size (w1.heap.size + 1) (w1.heap.size + 1 + 1)) 1)).cell? ⟨w1.heap.size + 1 + 1, 0, none⟩ = some (.func (.func 16) #[] #[.pointer (some ⟨w1.heap.size, 0, none⟩)])) := (World.cell?_alloc_past _ _ _ (by omega)).trans (World.cell?_alloc_at _ _ _ _ hzM.symm)
  have HBW : Hid (∀ o, ((((w1.alloc (eyeP g)).alloc (.cells (rmcC false 0 0 0 0 false false 0 false 0 false 0 false 0 false 0 false 0 0 0) 32)).alloc (fnO w1.heap.size)).alloc (.cells (stepsT w1.heap.size (w1.heap.size + 1) (w1.heap.size + 1 + 1)) 1)).cell? ⟨w1.heap.size + 1 + 1 + 1, o, none⟩ = (stepsT w1.heap.size (w1.heap.size + 1) (w1.heap.size + 1 + 1))[o]?) := fun o => World.cell?_alloc_at _ _ _ _ hzN.symm
  have T0 : Hid (TkI (EyeI g (0, R)) g (w1.heap.size + 1) (rmcC false 0 0 0 0 false false 0 false 0 false 0 false 0 false 0 false 0 0 0) ((((w1.alloc (eyeP g)).alloc (.cells (rmcC false 0 0 0 0 false false 0 false 0 false 0 false 0 false 0 false 0 0 0) 32)).alloc (fnO w1.heap.size)).alloc (.cells (stepsT w1.heap.size (w1.heap.size + 1) (w1.heap.size + 1 + 1)) 1)) ((((w1.alloc (eyeP g)).alloc (.cells (rmcC false 0 0 0 0 false false 0 false 0 false 0 false 0 false 0 false 0 0 0) 32)).alloc (fnO w1.heap.size)).alloc (.cells (stepsT w1.heap.size (w1.heap.size + 1) (w1.heap.size + 1 + 1)) 1))) :=
    ⟨hx1.keep hb14, fun j => (World.cell?_alloc_past _ _ _ (by omega)).trans ((World.cell?_alloc_past _ _ _ (by omega)).trans (World.cell?_alloc_at _ _ _ _ hzP.symm)), fun j => by rw [frozen?_alloc_cells, frozen?_alloc_cells, frozen?_alloc_cells]; exact frozen_past _ _ _ (by omega), by omega, by omega, rfl, rfl, rfl, Nat.le_refl _, fun _ _ _ _ => rfl⟩
  have hz0 := HZ0.out
  have sP : Hid (w1.heap.size < ((((w1.alloc (eyeP g)).alloc (.cells (rmcC false 0 0 0 0 false false 0 false 0 false 0 false 0 false 0 false 0 0 0) 32)).alloc (fnO w1.heap.size)).alloc (.cells (stepsT w1.heap.size (w1.heap.size + 1) (w1.heap.size + 1 + 1)) 1)).heap.size ∧ w1.heap.size ≠ g ∧ w1.heap.size ≠ w1.heap.size + 1) := ⟨by omega, by omega, by omega⟩
  have sN : Hid (w1.heap.size + 1 + 1 < ((((w1.alloc (eyeP g)).alloc (.cells (rmcC false 0 0 0 0 false false 0 false 0 false 0 false 0 false 0 false 0 0 0) 32)).alloc (fnO w1.heap.size)).alloc (.cells (stepsT w1.heap.size (w1.heap.size + 1) (w1.heap.size + 1 + 1)) 1)).heap.size ∧ w1.heap.size + 1 + 1 ≠ g ∧ w1.heap.size + 1 + 1 ≠ w1.heap.size + 1) := ⟨by omega, by omega, by omega⟩
  have sB : Hid (w1.heap.size + 1 + 1 + 1 < ((((w1.alloc (eyeP g)).alloc (.cells (rmcC false 0 0 0 0 false false 0 false 0 false 0 false 0 false 0 false 0 0 0) 32)).alloc (fnO w1.heap.size)).alloc (.cells (stepsT w1.heap.size (w1.heap.size + 1) (w1.heap.size + 1 + 1)) 1)).heap.size ∧ w1.heap.size + 1 + 1 + 1 ≠ g ∧ w1.heap.size + 1 + 1 + 1 ≠ w1.heap.size + 1) := ⟨by omega, by omega, by omega⟩
  have hb04 := bthen hb1 hb14
  have HRW : Hid ((∀ o, ((((w1.alloc (eyeP g)).alloc (.cells (rmcC false 0 0 0 0 false false 0 false 0 false 0 false 0 false 0 false 0 0 0) 32)).alloc (fnO w1.heap.size)).alloc (.cells (stepsT w1.heap.size (w1.heap.size + 1) (w1.heap.size + 1 + 1)) 1)).cell? ⟨w.heap.size, o, none⟩ = (rmcC false 0 0 0 0 false false 0 false 0 false 0 false 0 false 0 false 0 0 0)[o]?) ∧ (∀ o, ((((w1.alloc (eyeP g)).alloc (.cells (rmcC false 0 0 0 0 false false 0 false 0 false 0 false 0 false 0 false 0 0 0) 32)).alloc (fnO w1.heap.size)).alloc (.cells (stepsT w1.heap.size (w1.heap.size + 1) (w1.heap.size + 1 + 1)) 1)).frozen? ⟨w.heap.size, o, none⟩ = false) ∧ Below w.heap.size w ((((w1.alloc (eyeP g)).alloc (.cells (rmcC false 0 0 0 0 false false 0 false 0 false 0 false 0 false 0 false 0 0 0) 32)).alloc (fnO w1.heap.size)).alloc (.cells (stepsT w1.heap.size (w1.heap.size + 1) (w1.heap.size + 1 + 1)) 1))) :=
    ⟨fun o => ((bcell hb04).1 _ o (by omega)).trans (HR0.out o), fun o => ((bcell hb04).2 _ o (by omega)).trans (HR1.out o), Below.trans HB0.out (hb04.mono (by omega))⟩
  have HLT : Hid (w.heap.size < ((((w1.alloc (eyeP g)).alloc (.cells (rmcC false 0 0 0 0 false false 0 false 0 false 0 false 0 false 0 false 0 0 0) 32)).alloc (fnO w1.heap.size)).alloc (.cells (stepsT w1.heap.size (w1.heap.size + 1) (w1.heap.size + 1 + 1)) 1)).heap.size ∧ w.heap.size < g ∧ w.heap.size < w1.heap.size + 1) := ⟨by omega, by omega, by omega⟩
  clear hbP hbM hbN hbB hzP hzM hzN hzW hb14 hz0 hb04 hx1 hg1 hz1 hb1 HL HR0 HR1 HZ0 HB0
  go_upto_region 7 with fail
  generalize ((((w1.alloc (eyeP g)).alloc (.cells (rmcC false 0 0 0 0 false false 0 false 0 false 0 false 0 false 0 false 0 0 0) 32)).alloc (fnO w1.heap.size)).alloc (.cells (stepsT w1.heap.size (w1.heap.size + 1) (w1.heap.size + 1 + 1)) 1)) = W at *
  generalize w1.heap.size = P at *
  go_wp2_with fail
  refine wp_loop_rounds 10 ?_
  rw [rounds_succ]
  have q := (T0.out.cell (o := 0) sB.out.1 sB.out.2.1 sB.out.2.2).trans (HBW.out 0)
  go_wp2_with fail
  refine (rmcTake2_any h1 T0.out pW sP nW sN).mono ?_
  rintro r x1 ⟨rfl, ht⟩
  have T1 := Lib.hid ht
  clear ht T0 q
  go_wp2_with fail
  rw [rounds_succ]
  have q := (T1.out.cell (o := 1) sB.out.1 sB.out.2.1 sB.out.2.2).trans (HBW.out 1)
  go_wp2_with fail
  refine (rmcTake3_any h2 T1.out pW sP).mono ?_
  rintro r x2 ⟨rfl, ht⟩
  have T2 := Lib.hid ht
  clear ht T1 q
  go_wp2_with fail
  rw [rounds_succ]
  have q := (T2.out.cell (o := 2) sB.out.1 sB.out.2.1 sB.out.2.2).trans (HBW.out 2)
  go_wp2_with fail
  refine (rmcTake4_any h3 T2.out pW sP).mono ?_
  rintro r x3 ⟨rfl, ht⟩
  have T3 := Lib.hid ht
  clear ht T2 q
  go_wp2_with fail
  rw [rounds_succ]
  have q := (T3.out.cell (o := 3) sB.out.1 sB.out.2.1 sB.out.2.2).trans (HBW.out 3)
  go_wp2_with fail
  refine (rmcTake5_any h4 T3.out pW sP).mono ?_
  rintro r x4 ⟨rfl, ht⟩
  have T4 := Lib.hid ht
  clear ht T3 q
  go_wp2_with fail
  rw [rounds_succ]
  have q := (T4.out.cell (o := 4) sB.out.1 sB.out.2.1 sB.out.2.2).trans (HBW.out 4)
  go_wp2_with fail
  refine (rmcTake6_any h5 T4.out pW sP).mono ?_
  rintro r x5 ⟨rfl, ht⟩
  have T5 := Lib.hid ht
  clear ht T4 q
  go_wp2_with fail
  rw [rounds_succ]
  have q := (T5.out.cell (o := 5) sB.out.1 sB.out.2.1 sB.out.2.2).trans (HBW.out 5)
  go_wp2_with fail
  refine (rmcTake7_any h6 T5.out pW sP).mono ?_
  rintro r x6 ⟨rfl, ht⟩
  have T6 := Lib.hid ht
  clear ht T5 q
  go_wp2_with fail
  rw [rounds_succ]
  have q := (T6.out.cell (o := 6) sB.out.1 sB.out.2.1 sB.out.2.2).trans (HBW.out 6)
  go_wp2_with fail
  refine (rmcTake8_any h7 T6.out pW sP nW sN).mono ?_
  rintro r x7 ⟨rfl, ht⟩
  have T7 := Lib.hid ht
  clear ht T6 q
  go_wp2_with fail
  rw [rounds_succ]
  have q := (T7.out.cell (o := 7) sB.out.1 sB.out.2.1 sB.out.2.2).trans (HBW.out 7)
  go_wp2_with fail
  refine (rmcTake9_any h8 T7.out pW sP).mono ?_
  rintro r x8 ⟨rfl, ht⟩
  have T8 := Lib.hid ht
  clear ht T7 q
  go_wp2_with fail
  rw [rounds_succ]
  have q := (T8.out.cell (o := 8) sB.out.1 sB.out.2.1 sB.out.2.2).trans (HBW.out 8)
  go_wp2_with fail
  refine (rmcTake10_any h9 T8.out pW sP).mono ?_
  rintro r x9 ⟨rfl, ht⟩
  have T9 := Lib.hid ht
  clear ht T8 q
  go_wp2_with fail
  rw [rounds_succ]
  generalize x9 = y9 at *
  obtain ⟨E, hE⟩ : ∃ E, r9.1 = E := ⟨_, rfl⟩
  have HER := Lib.hid (eyeErr T9.out.x)
  rw [hE] at HER HT
  clear hE
  have p_ := (T9.out.cell (o := 0) sP.out.1 sP.out.2.1 sP.out.2.2).trans pW.out
  have hr : ∀ j, y9.cell? ⟨w.heap.size, j, none⟩ = (rmcC false 0 0 0 0 false false 0 false 0 false 0 false 0 false 0 false 0 0 0)[j]? := fun j => (T9.out.cell (by have := HLT.out; omega) (by have := HLT.out; omega) (by have := HLT.out; omega)).trans (HRW.out.1 j)
  have hf : ∀ j, y9.frozen? ⟨w.heap.size, j, none⟩ = false := fun j => (T9.out.frozen (by have := HLT.out; omega) (by have := HLT.out; omega) (by have := HLT.out; omega)).trans (HRW.out.2.1 j)
  have HB9 : Hid (Below w.heap.size w y9) := Below.trans HRW.out.2.2 (T9.out.below (by have := HLT.out; omega) (by have := HLT.out; omega))
  have hm := T9.out.c
  have HR := Lib.hid (show AtC y9 w.heap.size (rmcC false 0 0 0 0 false false 0 false 0 false 0 false 0 false 0 false 0 0 0) from hr)
  have HRF := Lib.hid hf
  have HRM := Lib.hid (range_of (show AtC y9 (P + 1) (rmcC cb ch cm cs cc st lb ln ob on sb sn kb kn vb vn db dd dm dy) from hm))
  clear T9 HRW hr hf hm
  go_wp2_with fail
  refine HER.out.mono ?_
  rintro r w' ⟨rfl, rfl⟩
  clear p_ HER HBW sB sN nW
  generalize P + 1 = M at *
  by_cases hE : E = 0
  · subst hE
    have HX2 : Hid (X = (((cb, ch, cm, cs, cc), st, (lb, ln), (ob, on), (sb, sn), (kb, kn), (db, dd, dm, dy), (vb, vn)), 0)) := HT.out.trans (if_pos rfl)
    clear HT
    go_upto_region 15 with fail
    try (apply wp_seq_k; intro K_ HK_)
    apply wp_region_lit
    refine wpList_load_mid rfl _ _ rfl M 0 rfl (rmcC cb ch cm cs cc st lb ln ob on sb sn kb kn vb vn db dd dm dy).toList _ HRM.out Tryz.underlying32 rfl rmc_size ?_
    refine wpList_store_mid rfl _ _ _ rfl w.heap.size 0 (rmcC cb ch cm cs cc st lb ln ob on sb sn kb kn vb vn db dd dm dy) rfl rfl (there_of HR.out HRF.out rfl) rmc_size (by simp [Value.oneCell']) ?_
    have hY := World.rangeAt_setCells_same y9 w.heap.size 0 (rmcC cb ch cm cs cc st lb ln ob on sb sn kb kn vb vn db dd dm dy).toList (there_of HR.out HRF.out rfl)
    have HBK := Lib.hid (below_cells (Nat.le_refl _) (rmcC cb ch cm cs cc st lb ln ob on sb sn kb kn vb vn db dd dm dy).toList 0 y9 HB9.out)
    have hld := rmc_load (C := rmcC cb ch cm cs cc st lb ln ob on sb sn kb kn vb vn db dd dm dy) rfl hY
    clear hY HR HRF HB9
    generalize World.setCells y9 w.heap.size 0 (rmcC cb ch cm cs cc st lb ln ob on sb sn kb kn vb vn db dd dm dy).toList = Y at *
    have HLD := Lib.hid hld
    clear hld
    go_wp2_with fail
    refine bodyPost_ret (v := .tuple #[rmcV cb ch cm cs cc st lb ln ob on sb sn kb kn vb vn db dd dm dy, .int .i64 0]) (by rw [results_cell_tmp rfl]; simp [asAddr, Result.andThen, HLD.out]) rfl ?_
    rw [HX2.out]
    exact ⟨rfl, HBK.out⟩
  · have hne : (E != 0) = true := by rw [bne_iff_ne]; exact hE
    have HX2 : Hid (X = (zeroM, E)) := HT.out.trans (if_neg hE)
    clear hE HT
    go_upto_region 14 with fail
    try (apply wp_seq_k; intro K_ HK_)
    apply wp_region_lit
    go_step
    go_step
    go_step
    go_step
    go_step
    go_step
    refine wpList_store_mid rfl _ _ _ rfl w.heap.size 0 (rmcC false 0 0 0 0 false false 0 false 0 false 0 false 0 false 0 false 0 0 0) rfl rfl (there_of HR.out HRF.out rfl) rmc_size (by simp [Value.oneCell']) ?_
    have hY := World.rangeAt_setCells_same y9 w.heap.size 0 (rmcC false 0 0 0 0 false false 0 false 0 false 0 false 0 false 0 false 0 0 0).toList (there_of HR.out HRF.out rfl)
    have HBK := Lib.hid (below_cells (Nat.le_refl _) (rmcC false 0 0 0 0 false false 0 false 0 false 0 false 0 false 0 false 0 0 0).toList 0 y9 HB9.out)
    have hld := rmc_load (C := rmcC false 0 0 0 0 false false 0 false 0 false 0 false 0 false 0 false 0 0 0) rfl hY
    clear hY HR HRF HB9
    generalize World.setCells y9 w.heap.size 0 (rmcC false 0 0 0 0 false false 0 false 0 false 0 false 0 false 0 false 0 0 0).toList = Y at *
    have HLD := Lib.hid hld
    clear hld
    go_wp2_with fail
    refine bodyPost_ret (v := .tuple #[rmcV false 0 0 0 0 false false 0 false 0 false 0 false 0 false 0 false 0 0 0, .int .i64 E]) (by rw [results_cell_tmp rfl]; simp [asAddr, Result.andThen, HLD.out]) rfl ?_
    rw [HX2.out]
    exact ⟨rfl, HBK.out⟩
set_option maxRecDepth 8000 in
set_option maxHeartbeats 4000000 in
theorem rmcTake_bad (A : Option Addr) (n c : Nat) (w : World) (h : ((n : Int) != 11) = true) (h2 : ((n : Int) != 12) = true) : Calls Tryz.prog 7 #[.slice A n c] w (RmcPost (zeroM, 3) w) := by
  have HB9 := Lib.hid (below_new w (.cells (rmcC false 0 0 0 0 false false 0 false 0 false 0 false 0 false 0 false 0 0 0) 32))
  have HR : Hid (AtC (w.alloc (.cells (rmcC false 0 0 0 0 false false 0 false 0 false 0 false 0 false 0 false 0 0 0) 32)) w.heap.size (rmcC false 0 0 0 0 false false 0 false 0 false 0 false 0 false 0 false 0 0 0)) := fun o => World.cell?_alloc_at _ _ _ _ rfl
  have HRF : Hid (∀ o, (w.alloc (.cells (rmcC false 0 0 0 0 false false 0 false 0 false 0 false 0 false 0 false 0 0 0) 32)).frozen? ⟨w.heap.size, o, none⟩ = false) := fun o => by rw [frozen?_alloc_cells]; exact frozen_past _ _ _ (Nat.le_refl _)
  go_enter Tryz.func7, Tryz.ntmps7
  try dsimp only
  repeat (fail_if_success (show Code.wp _ (Code.seq (Code.region 1 _ _) _) _ _ _)
          first | go_values | go_skip | go_guarded | go_step | go_upon | go_back | (simp only [Int.not_lt, Int.not_le] at *; go_simp) | (go_ite <;> go_prune <;> (try go_simp)))
  generalize hW0 : w.alloc (.cells (rmcC false 0 0 0 0 false false 0 false 0 false 0 false 0 false 0 false 0 0 0) 32) = W0 at *
  clear hW0
  go_upto_region 2 with fail
  try (apply wp_seq_k; intro K_ HK_)
  apply wp_region_lit
  go_step
  go_step
  go_step
  refine wpList_store_mid rfl _ _ _ rfl w.heap.size 0 (rmcC false 0 0 0 0 false false 0 false 0 false 0 false 0 false 0 false 0 0 0) rfl rfl (there_of HR.out HRF.out rfl) rmc_size (by simp [Value.oneCell']) ?_
  have hY := World.rangeAt_setCells_same W0 w.heap.size 0 (rmcC false 0 0 0 0 false false 0 false 0 false 0 false 0 false 0 false 0 0 0).toList (there_of HR.out HRF.out rfl)
  have HBK := Lib.hid (below_cells (Nat.le_refl _) (rmcC false 0 0 0 0 false false 0 false 0 false 0 false 0 false 0 false 0 0 0).toList 0 W0 HB9.out)
  have hld := rmc_load (C := rmcC false 0 0 0 0 false false 0 false 0 false 0 false 0 false 0 false 0 0 0) rfl hY
  clear hY HR HRF HB9
  generalize World.setCells W0 w.heap.size 0 (rmcC false 0 0 0 0 false false 0 false 0 false 0 false 0 false 0 false 0 0 0).toList = Y at *
  have HLD := Lib.hid hld
  clear hld
  go_wp2_with fail
  refine bodyPost_ret (v := .tuple #[rmcV false 0 0 0 0 false false 0 false 0 false 0 false 0 false 0 false 0 0 0, .int .i64 3]) (by rw [results_cell_tmp rfl]; simp [asAddr, Result.andThen, HLD.out]) rfl ?_
  exact ⟨rfl, HBK.out⟩
theorem rmcTake_any (A : Option Addr) (R : List ByteArray) (c : Nat) (w : World) (hA : A = none → c = 0) (hs : Strs w w.heap.size A R) (hz : ∀ t ∈ R, t.size ≤ 1000000) : Calls Tryz.prog 7 #[.slice A R.length c] w (RmcPost (takeRmc R) w) := by
  by_cases h : R.length = 11 ∨ R.length = 12
  · exact rmcTake_ok A R.length c R w rfl hA hs hz h
  · rw [show takeRmc R = (zeroM, 3) from if_pos ⟨fun q => h (.inl q), fun q => h (.inr q)⟩]
    exact rmcTake_bad A R.length c w (by rw [bne_iff_ne]; omega) (by rw [bne_iff_ne]; omega)
end Go.Proofs.YtfgopmfaeooadaaGreatDoor
