/- Layer 26: Put. Printed by genrmcp.py. -/
import Derived.Test.YtfgopmfaeooadaaGreatDoorMzp
import Derived.Deep.LoopGhost
namespace Go.Proofs.YtfgopmfaeooadaaGreatDoor
set_option linter.unusedVariables false
open Go.RowKit

def nineS (s0 s1 s2 s3 s4 s5 s6 s7 s8 s9 : Rd) : Nat → Rd
  | 0 => s0 | 1 => s1 | 2 => s2 | 3 => s3 | 4 => s4 | 5 => s5 | 6 => s6 | 7 => s7 | 8 => s8 | _ => s9
abbrev penO (g : Nat) : Obj := .cells #[.pointer (some ⟨g, 0, none⟩)] 68
abbrev txtO (a : ByteArray) : Obj := .cells #[.string a] 9

abbrev stepsP (P M A F D : Nat) : Array Value := #[.func (.func 48) #[] #[.pointer (some ⟨P, 0, none⟩), .pointer (some ⟨M, 0, none⟩)], .func (.func 51) #[] #[.pointer (some ⟨P, 0, none⟩), .pointer (some ⟨A, 0, none⟩)], .func (.func 52) #[] #[.pointer (some ⟨P, 0, none⟩), .pointer (some ⟨M, 0, none⟩)], .func (.func 54) #[] #[.pointer (some ⟨P, 0, none⟩), .pointer (some ⟨M, 0, none⟩)], .func (.func 55) #[] #[.pointer (some ⟨P, 0, none⟩), .pointer (some ⟨M, 0, none⟩)], .func (.func 57) #[] #[.pointer (some ⟨P, 0, none⟩), .pointer (some ⟨M, 0, none⟩)], .func (.func 58) #[] #[.pointer (some ⟨P, 0, none⟩), .pointer (some ⟨M, 0, none⟩)], .func (.func 60) #[] #[.pointer (some ⟨P, 0, none⟩), .pointer (some ⟨F, 0, none⟩)], .func (.func 62) #[] #[.pointer (some ⟨P, 0, none⟩), .pointer (some ⟨D, 0, none⟩)]]
set_option maxRecDepth 8000 in
set_option maxHeartbeats 16000000 in
theorem rmcPut_any (cb : Bool) (ch : Int) (cm : Int) (cs : Int) (cc : Int) (st : Bool) (lb : Bool) (ln : Int) (ob : Bool) (on : Int) (sb : Bool) (sn : Int) (kb : Bool) (kn : Int) (vb : Bool) (vn : Int) (db : Bool) (dd : Int) (dm : Int) (dy : Int) (w : World) : Calls Tryz.prog 10 #[rmcV cb ch cm cs cc st lb ln ob on sb sn kb kn vb vn db dd dm dy] w (PutPost (putRmc ((cb, ch, cm, cs, cc), st, (lb, ln), (ob, on), (sb, sn), (kb, kn), (db, dd, dm, dy), (vb, vn))) w) := by
  obtain ⟨fb, fn, hfar⟩ : ∃ b n, farN (vb, vn) = (b, n) := ⟨_, _, rfl⟩
  obtain ⟨sd, hsd⟩ : ∃ x, sideT (vb, vn) = x := ⟨_, rfl⟩
  obtain ⟨s1, e1⟩ : ∃ s, Hid (wrClk (cb, ch, cm, cs, cc) (0, []) = s) := ⟨_, rfl⟩
  obtain ⟨s2, e2⟩ : ∃ s, Hid (wrText (stT st) 0 s1 = s) := ⟨_, rfl⟩
  obtain ⟨s3, e3⟩ : ∃ s, Hid (wrAng true (lb, ln) s2 = s) := ⟨_, rfl⟩
  obtain ⟨s4, e4⟩ : ∃ s, Hid (wrAng false (ob, on) s3 = s) := ⟨_, rfl⟩
  obtain ⟨s5, e5⟩ : ∃ s, Hid (wrNum 1 4 2 0 999999 (sb, sn) s4 = s) := ⟨_, rfl⟩
  obtain ⟨s6, e6⟩ : ∃ s, Hid (wrNum 1 3 2 0 36000 (kb, kn) s5 = s) := ⟨_, rfl⟩
  obtain ⟨s7, e7⟩ : ∃ s, Hid (wrDat (db, dd, dm, dy) s6 = s) := ⟨_, rfl⟩
  obtain ⟨s8, e8⟩ : ∃ s, Hid (wrNum 1 3 1 0 1800 (fb, fn) s7 = s) := ⟨_, rfl⟩
  obtain ⟨s9, e9⟩ : ∃ s, Hid (wrText sd 0 s8 = s) := ⟨_, rfl⟩
  have HPUT : Hid (putRmc ((cb, ch, cm, cs, cc), st, (lb, ln), (ob, on), (sb, sn), (kb, kn), (db, dd, dm, dy), (vb, vn)) = wrDone s9) := by
    show _ = _
    unfold putRmc
    show wrDone (wrText (sideT (vb, vn)) 0 (wrNum 1 3 1 0 1800 (farN (vb, vn)) (wrDat (db, dd, dm, dy) (wrNum 1 3 2 0 36000 (kb, kn) (wrNum 1 4 2 0 999999 (sb, sn) (wrAng false (ob, on) (wrAng true (lb, ln) (wrText (stT st) 0 (wrClk (cb, ch, cm, cs, cc) (0, [])))))))))) = _
    rw [hfar, hsd, e1.out, e2.out, e3.out, e4.out, e5.out, e6.out, e7.out, e8.out, e9.out]
  have l1 : s1.2.length ≤ 1 := by rw [← e1.out]; unfold wrClk; rw [wrText_len]; exact Nat.le_refl _
  have l2 : s2.2.length ≤ 2 := by rw [← e2.out]; rw [wrText_len]; omega
  have l3 : s3.2.length ≤ 4 := by rw [← e3.out]; rw [wrAng_len]; omega
  have l4 : s4.2.length ≤ 6 := by rw [← e4.out]; rw [wrAng_len]; omega
  have l5 : s5.2.length ≤ 7 := by rw [← e5.out]; rw [wrNum_len]; omega
  have l6 : s6.2.length ≤ 8 := by rw [← e6.out]; rw [wrNum_len]; omega
  have l7 : s7.2.length ≤ 9 := by rw [← e7.out]; unfold wrDat; rw [wrText_len]; omega
  have l8 : s8.2.length ≤ 10 := by rw [← e8.out]; rw [wrNum_len]; omega
  have l9 : s9.2.length ≤ 11 := by rw [← e9.out]; rw [wrText_len]; omega
  rw [HPUT.out]
  clear HPUT
  obtain ⟨X, hX⟩ : ∃ X, wrDone s9 = X := ⟨_, rfl⟩
  have HX := Lib.hid hX
  rw [hX]
  clear hX
  have HSD := fun W => Lib.hid (rmcsided_any vb vn W)
  rw [hfar, hsd] at HSD
  clear hfar hsd
  have HM0 : Hid (∀ o, (w.alloc (.cells (rmcC cb ch cm cs cc st lb ln ob on sb sn kb kn vb vn db dd dm dy) 32)).cell? ⟨w.heap.size, o, none⟩ = (rmcC cb ch cm cs cc st lb ln ob on sb sn kb kn vb vn db dd dm dy)[o]?) := fun o => World.cell?_alloc_at _ _ _ _ rfl
  have HB0 := Lib.hid (below_new w (.cells (rmcC cb ch cm cs cc st lb ln ob on sb sn kb kn vb vn db dd dm dy) 32))
  have HZ0 : Hid ((w.alloc (.cells (rmcC cb ch cm cs cc st lb ln ob on sb sn kb kn vb vn db dd dm dy) 32)).heap.size = w.heap.size + 1) := by show _ = _; simp
  go_enter Tryz.func10, Tryz.ntmps10
  go_wp2_with fail
  generalize hW1 : w.alloc (.cells (rmcC cb ch cm cs cc st lb ln ob on sb sn kb kn vb vn db dd dm dy) 32) = W1 at *
  clear hW1
  refine penRow.mono ?_
  rintro r w2 ⟨rfl, hp2, hb2, hz2⟩
  have hz0 := HZ0.out
  have HM2 : Hid (∀ o, w2.cell? ⟨w.heap.size, o, none⟩ = (rmcC cb ch cm cs cc st lb ln ob on sb sn kb kn vb vn db dd dm dy)[o]?) := fun o => ((bcell hb2).1 _ o (by omega)).trans (HM0.out o)
  have HB2 : Hid (Below w.heap.size w w2) := Below.trans HB0.out (hb2.mono (by omega))
  have HP2 := Lib.hid hp2
  have HZ2 : Hid (W1.heap.size = w.heap.size + 1 ∧ w2.heap.size = W1.heap.size + 1) := ⟨hz0, hz2⟩
  clear hp2 hb2 hz2 HM0 HB0 HZ0 hz0
  generalize W1.heap.size = g at *
  try dsimp only
  repeat (fail_if_success (show Code.wp _ (Code.seq (Code.region 3 _ _) _) _ _ _)
          first | go_values | go_skip | go_guarded | go_step | go_upon | go_back | (simp only [Int.not_lt, Int.not_le] at *; go_simp) | (go_ite <;> go_prune <;> (try go_simp)))
  go_cut [] (fun wx => Hid (Below w2.heap.size w2 wx ∧ wx.heap.size = w2.heap.size + 2 ∧ wx.cell? ⟨w2.heap.size, 0, none⟩ = some (.pointer (some ⟨g, 0, none⟩)) ∧ wx.cell? ⟨w2.heap.size + 1, 0, none⟩ = some (.string (stT st))))
  case first =>
    have hbA := below_new w2 (penO g)
    have m5 : ((w2.alloc (penO g)).alloc (txtO ⟨#[86]⟩)).cell? ⟨w.heap.size, 5, none⟩ = some (.bool st) := ((bcell (bthen hbA (below_new (w2.alloc (penO g)) (txtO ⟨#[86]⟩)))).1 _ 5 (by have := HZ2.out; omega)).trans (HM2.out 5)
    have hq : (w2.alloc (penO g)).heap.size = w2.heap.size + 1 := by simp
    have h00 : ∀ (x : ByteArray) (_ : Nat), ((w2.alloc (penO g)).alloc (txtO x)).cell? ⟨w2.heap.size, 0, none⟩ = some (.pointer (some ⟨g, 0, none⟩)) := fun x (_ : Nat) => (World.cell?_alloc_past _ _ _ (by simp)).trans (World.cell?_alloc_at _ _ _ _ rfl)
    have h01 : ∀ x, ((w2.alloc (penO g)).alloc (txtO x)).cell? ⟨w2.heap.size + 1, 0, none⟩ = some (.string x) := fun x => World.cell?_alloc_at _ _ _ _ (by simp)
    have HV : Hid (Below w2.heap.size w2 ((w2.alloc (penO g)).alloc (txtO ⟨#[86]⟩)) ∧ ((w2.alloc (penO g)).alloc (txtO ⟨#[86]⟩)).heap.size = w2.heap.size + 2 ∧ ((w2.alloc (penO g)).alloc (txtO ⟨#[86]⟩)).cell? ⟨w2.heap.size, 0, none⟩ = some (.pointer (some ⟨g, 0, none⟩)) ∧ ((w2.alloc (penO g)).alloc (txtO ⟨#[86]⟩)).cell? ⟨w2.heap.size + 1, 0, none⟩ = some (.string (stT false))) :=
      ⟨bthen hbA (below_new _ _), by simp, h00 _ 0, h01 _⟩
    have HA : Hid (Below w2.heap.size w2 ((w2.alloc (penO g)).alloc (txtO ⟨#[65]⟩)) ∧ ((w2.alloc (penO g)).alloc (txtO ⟨#[65]⟩)).heap.size = w2.heap.size + 2 ∧ ((w2.alloc (penO g)).alloc (txtO ⟨#[65]⟩)).cell? ⟨w2.heap.size, 0, none⟩ = some (.pointer (some ⟨g, 0, none⟩)) ∧ ((w2.alloc (penO g)).alloc (txtO ⟨#[65]⟩)).cell? ⟨w2.heap.size + 1, 0, none⟩ = some (.string (stT true))) :=
      ⟨bthen hbA (below_new _ _), by simp, h00 _ 0, h01 _⟩
    clear hbA hq h00 h01
    cases st
    · go_wp2_with fail
      go_meet
      exact HV
    · go_wp2_with fail
      go_meet
      exact HA
  case rest =>
  have HC3 := hcut
  clear hcut
  have HM3 : Hid (∀ o, wc.cell? ⟨w.heap.size, o, none⟩ = (rmcC cb ch cm cs cc st lb ln ob on sb sn kb kn vb vn db dd dm dy)[o]?) := fun o => ((bcell HC3.out.1).1 _ o (by have := HZ2.out; omega)).trans (HM2.out o)
  have m14 := HM3.out 14
  have m15 := HM3.out 15
  go_wp2_with fail
  refine (HSD _).out.mono ?_
  rintro r w4 ⟨rfl, hb4⟩
  have HB4 := Lib.hid hb4
  clear m14 m15 hb4
  have hz4 := HB4.out.size
  have hz3 := HC3.out.2.1
  have hZ2 := HZ2.out
  have hbF := below_new w4 (numO fb fn)
  have hbD := below_new (w4.alloc (numO fb fn)) (txtO sd)
  have hbS := below_new ((w4.alloc (numO fb fn)).alloc (txtO sd)) (.cells (stepsP w2.heap.size w.heap.size (w2.heap.size + 1) w4.heap.size (w4.heap.size + 1)) 1)
  have hb6 : Below w4.heap.size w4 (((w4.alloc (numO fb fn)).alloc (txtO sd)).alloc (.cells (stepsP w2.heap.size w.heap.size (w2.heap.size + 1) w4.heap.size (w4.heap.size + 1)) 1)) := bthen (bthen hbF hbD) hbS
  have hzF : (w4.alloc (numO fb fn)).heap.size = w4.heap.size + 1 := by simp
  have hzD : ((w4.alloc (numO fb fn)).alloc (txtO sd)).heap.size = w4.heap.size + 1 + 1 := by simp
  have hz6 : (((w4.alloc (numO fb fn)).alloc (txtO sd)).alloc (.cells (stepsP w2.heap.size w.heap.size (w2.heap.size + 1) w4.heap.size (w4.heap.size + 1)) 1)).heap.size = w4.heap.size + 1 + 1 + 1 := by simp
  have HCF : Hid (∀ o, (((w4.alloc (numO fb fn)).alloc (txtO sd)).alloc (.cells (stepsP w2.heap.size w.heap.size (w2.heap.size + 1) w4.heap.size (w4.heap.size + 1)) 1)).cell? ⟨w4.heap.size, o, none⟩ = (#[Value.bool fb, .int .i64 fn] : Array Value)[o]?) := fun o => (World.cell?_alloc_past _ _ _ (by omega)).trans ((World.cell?_alloc_past _ _ _ (by omega)).trans (World.cell?_alloc_at _ _ _ _ rfl))
  have HCD : Hid ((((w4.alloc (numO fb fn)).alloc (txtO sd)).alloc (.cells (stepsP w2.heap.size w.heap.size (w2.heap.size + 1) w4.heap.size (w4.heap.size + 1)) 1)).cell? ⟨w4.heap.size + 1, 0, none⟩ = some (.string sd)) := (World.cell?_alloc_past _ _ _ (by omega)).trans (World.cell?_alloc_at _ _ _ _ hzF.symm)
  have HCS : Hid (∀ o, (((w4.alloc (numO fb fn)).alloc (txtO sd)).alloc (.cells (stepsP w2.heap.size w.heap.size (w2.heap.size + 1) w4.heap.size (w4.heap.size + 1)) 1)).cell? ⟨w4.heap.size + 1 + 1, o, none⟩ = (stepsP w2.heap.size w.heap.size (w2.heap.size + 1) w4.heap.size (w4.heap.size + 1))[o]?) := fun o => World.cell?_alloc_at _ _ _ _ hzD.symm
  have hb34 := bthen HB4.out hb6
  have HCP : Hid ((((w4.alloc (numO fb fn)).alloc (txtO sd)).alloc (.cells (stepsP w2.heap.size w.heap.size (w2.heap.size + 1) w4.heap.size (w4.heap.size + 1)) 1)).cell? ⟨w2.heap.size, 0, none⟩ = some (.pointer (some ⟨g, 0, none⟩))) := ((bcell hb34).1 _ 0 (by omega)).trans HC3.out.2.2.1
  have HCA : Hid ((((w4.alloc (numO fb fn)).alloc (txtO sd)).alloc (.cells (stepsP w2.heap.size w.heap.size (w2.heap.size + 1) w4.heap.size (w4.heap.size + 1)) 1)).cell? ⟨w2.heap.size + 1, 0, none⟩ = some (.string (stT st))) := ((bcell hb34).1 _ 0 (by omega)).trans HC3.out.2.2.2
  have HCM : Hid (∀ o, (((w4.alloc (numO fb fn)).alloc (txtO sd)).alloc (.cells (stepsP w2.heap.size w.heap.size (w2.heap.size + 1) w4.heap.size (w4.heap.size + 1)) 1)).cell? ⟨w.heap.size, o, none⟩ = (rmcC cb ch cm cs cc st lb ln ob on sb sn kb kn vb vn db dd dm dy)[o]?) := fun o => ((bcell hb34).1 _ o (by omega)).trans (HM3.out o)
  have hpen := ((HP2.out.also HC3.out.1).keep HB4.out).also hb6
  have sM : Hid (Also (Also (fun k => k < g + 1) w2 wc) w4 (((w4.alloc (numO fb fn)).alloc (txtO sd)).alloc (.cells (stepsP w2.heap.size w.heap.size (w2.heap.size + 1) w4.heap.size (w4.heap.size + 1)) 1)) (w.heap.size) ∧ w.heap.size ≠ g) := ⟨.inl (.inl (by show _ < _; omega)), by omega⟩
  have sP : Hid (Also (Also (fun k => k < g + 1) w2 wc) w4 (((w4.alloc (numO fb fn)).alloc (txtO sd)).alloc (.cells (stepsP w2.heap.size w.heap.size (w2.heap.size + 1) w4.heap.size (w4.heap.size + 1)) 1)) (w2.heap.size) ∧ w2.heap.size ≠ g) := ⟨.inl (.inr ⟨Nat.le_refl _, by omega⟩), by omega⟩
  have sA : Hid (Also (Also (fun k => k < g + 1) w2 wc) w4 (((w4.alloc (numO fb fn)).alloc (txtO sd)).alloc (.cells (stepsP w2.heap.size w.heap.size (w2.heap.size + 1) w4.heap.size (w4.heap.size + 1)) 1)) (w2.heap.size + 1) ∧ w2.heap.size + 1 ≠ g) := ⟨.inl (.inr ⟨Nat.le_succ _, by omega⟩), by omega⟩
  have sF : Hid (Also (Also (fun k => k < g + 1) w2 wc) w4 (((w4.alloc (numO fb fn)).alloc (txtO sd)).alloc (.cells (stepsP w2.heap.size w.heap.size (w2.heap.size + 1) w4.heap.size (w4.heap.size + 1)) 1)) (w4.heap.size) ∧ w4.heap.size ≠ g) := ⟨.inr ⟨Nat.le_refl _, by omega⟩, by omega⟩
  have sD : Hid (Also (Also (fun k => k < g + 1) w2 wc) w4 (((w4.alloc (numO fb fn)).alloc (txtO sd)).alloc (.cells (stepsP w2.heap.size w.heap.size (w2.heap.size + 1) w4.heap.size (w4.heap.size + 1)) 1)) (w4.heap.size + 1) ∧ w4.heap.size + 1 ≠ g) := ⟨.inr ⟨Nat.le_succ _, by omega⟩, by omega⟩
  have sB : Hid (Also (Also (fun k => k < g + 1) w2 wc) w4 (((w4.alloc (numO fb fn)).alloc (txtO sd)).alloc (.cells (stepsP w2.heap.size w.heap.size (w2.heap.size + 1) w4.heap.size (w4.heap.size + 1)) 1)) (w4.heap.size + 1 + 1) ∧ w4.heap.size + 1 + 1 ≠ g) := ⟨.inr ⟨by omega, by omega⟩, by omega⟩
  have sW : Hid (∀ k, k < w.heap.size → Also (Also (fun k => k < g + 1) w2 wc) w4 (((w4.alloc (numO fb fn)).alloc (txtO sd)).alloc (.cells (stepsP w2.heap.size w.heap.size (w2.heap.size + 1) w4.heap.size (w4.heap.size + 1)) 1)) k) := fun k hk => .inl (.inl (by show _ < _; omega))
  have HGW : Hid (w.heap.size ≤ g) := by show _ ≤ _; omega
  have HB6 : Hid (Below w.heap.size w (((w4.alloc (numO fb fn)).alloc (txtO sd)).alloc (.cells (stepsP w2.heap.size w.heap.size (w2.heap.size + 1) w4.heap.size (w4.heap.size + 1)) 1))) := HB2.out.trans ((HC3.out.1.trans (hb34.mono (by omega))).mono (by omega))
  have HK0 : Hid (PenI (Also (Also (fun k => k < g + 1) w2 wc) w4 (((w4.alloc (numO fb fn)).alloc (txtO sd)).alloc (.cells (stepsP w2.heap.size w.heap.size (w2.heap.size + 1) w4.heap.size (w4.heap.size + 1)) 1))) g (0, []) (((w4.alloc (numO fb fn)).alloc (txtO sd)).alloc (.cells (stepsP w2.heap.size w.heap.size (w2.heap.size + 1) w4.heap.size (w4.heap.size + 1)) 1)) ∧ Kept (Also (Also (fun k => k < g + 1) w2 wc) w4 (((w4.alloc (numO fb fn)).alloc (txtO sd)).alloc (.cells (stepsP w2.heap.size w.heap.size (w2.heap.size + 1) w4.heap.size (w4.heap.size + 1)) 1))) g (((w4.alloc (numO fb fn)).alloc (txtO sd)).alloc (.cells (stepsP w2.heap.size w.heap.size (w2.heap.size + 1) w4.heap.size (w4.heap.size + 1)) 1)) (((w4.alloc (numO fb fn)).alloc (txtO sd)).alloc (.cells (stepsP w2.heap.size w.heap.size (w2.heap.size + 1) w4.heap.size (w4.heap.size + 1)) 1))) := ⟨hpen, Kept.refl _ _ _⟩
  clear hz4 hz3 hZ2 hbF hbD hbS hb6 hzF hzD hz6 hb34 hpen HP2 HB4 HC3 HM3 HM2 HB2 HZ2 HSD
  go_upto_region 7 with fail
  generalize Also (Also (fun k => k < g + 1) w2 wc) w4 (((w4.alloc (numO fb fn)).alloc (txtO sd)).alloc (.cells (stepsP w2.heap.size w.heap.size (w2.heap.size + 1) w4.heap.size (w4.heap.size + 1)) 1)) = S at *
  generalize (((w4.alloc (numO fb fn)).alloc (txtO sd)).alloc (.cells (stepsP w2.heap.size w.heap.size (w2.heap.size + 1) w4.heap.size (w4.heap.size + 1)) 1)) = W6 at *
  go_wp2_with fail
  refine wp_loop_rounds 10 ?_
  rw [rounds_succ]
  have q := (HK0.out.2.cell (o := 0) sB.out.1 sB.out.2).trans (HCS.out 0)
  have p0 := (HK0.out.2.cell (o := 0) sP.out.1 sP.out.2).trans HCP.out
  have m0 := (HK0.out.2.cell (o := 0) sM.out.1 sM.out.2).trans (HCM.out 0)
  have m1 := (HK0.out.2.cell (o := 1) sM.out.1 sM.out.2).trans (HCM.out 1)
  have m2 := (HK0.out.2.cell (o := 2) sM.out.1 sM.out.2).trans (HCM.out 2)
  have m3 := (HK0.out.2.cell (o := 3) sM.out.1 sM.out.2).trans (HCM.out 3)
  have m4 := (HK0.out.2.cell (o := 4) sM.out.1 sM.out.2).trans (HCM.out 4)
  go_wp2_with fail
  refine (rmcPut1_any e1 HK0.out.1 (by first | omega | simp) sP sM p0 m0 m1 m2 m3 m4).mono ?_
  rintro r x1 ⟨rfl, hp, hk⟩
  have HK1 : Hid (PenI S g s1 x1 ∧ Kept S g W6 x1) := ⟨hp, HK0.out.2.trans hk⟩
  clear hp hk HK0 q p0 m0 m1 m2 m3 m4
  go_wp2_with fail
  rw [rounds_succ]
  have q := (HK1.out.2.cell (o := 1) sB.out.1 sB.out.2).trans (HCS.out 1)
  have p0 := (HK1.out.2.cell (o := 0) sP.out.1 sP.out.2).trans HCP.out
  have m0 := (HK1.out.2.cell (o := 0) sA.out.1 sA.out.2).trans (HCA.out)
  go_wp2_with fail
  refine (rmcPut2_any e2 HK1.out.1 (by first | omega | simp) sP sA p0 m0).mono ?_
  rintro r x2 ⟨rfl, hp, hk⟩
  have HK2 : Hid (PenI S g s2 x2 ∧ Kept S g W6 x2) := ⟨hp, HK1.out.2.trans hk⟩
  clear hp hk HK1 q p0 m0
  go_wp2_with fail
  rw [rounds_succ]
  have q := (HK2.out.2.cell (o := 2) sB.out.1 sB.out.2).trans (HCS.out 2)
  have p0 := (HK2.out.2.cell (o := 0) sP.out.1 sP.out.2).trans HCP.out
  have m0 := (HK2.out.2.cell (o := 6) sM.out.1 sM.out.2).trans (HCM.out 6)
  have m1 := (HK2.out.2.cell (o := 7) sM.out.1 sM.out.2).trans (HCM.out 7)
  go_wp2_with fail
  refine (rmcPut3_any e3 HK2.out.1 (by first | omega | simp) sP sM p0 m0 m1).mono ?_
  rintro r x3 ⟨rfl, hp, hk⟩
  have HK3 : Hid (PenI S g s3 x3 ∧ Kept S g W6 x3) := ⟨hp, HK2.out.2.trans hk⟩
  clear hp hk HK2 q p0 m0 m1
  go_wp2_with fail
  rw [rounds_succ]
  have q := (HK3.out.2.cell (o := 3) sB.out.1 sB.out.2).trans (HCS.out 3)
  have p0 := (HK3.out.2.cell (o := 0) sP.out.1 sP.out.2).trans HCP.out
  have m0 := (HK3.out.2.cell (o := 8) sM.out.1 sM.out.2).trans (HCM.out 8)
  have m1 := (HK3.out.2.cell (o := 9) sM.out.1 sM.out.2).trans (HCM.out 9)
  go_wp2_with fail
  refine (rmcPut4_any e4 HK3.out.1 (by first | omega | simp) sP sM p0 m0 m1).mono ?_
  rintro r x4 ⟨rfl, hp, hk⟩
  have HK4 : Hid (PenI S g s4 x4 ∧ Kept S g W6 x4) := ⟨hp, HK3.out.2.trans hk⟩
  clear hp hk HK3 q p0 m0 m1
  go_wp2_with fail
  rw [rounds_succ]
  have q := (HK4.out.2.cell (o := 4) sB.out.1 sB.out.2).trans (HCS.out 4)
  have p0 := (HK4.out.2.cell (o := 0) sP.out.1 sP.out.2).trans HCP.out
  have m0 := (HK4.out.2.cell (o := 10) sM.out.1 sM.out.2).trans (HCM.out 10)
  have m1 := (HK4.out.2.cell (o := 11) sM.out.1 sM.out.2).trans (HCM.out 11)
  go_wp2_with fail
  refine (rmcPut5_any e5 HK4.out.1 (by first | omega | simp) sP sM p0 m0 m1).mono ?_
  rintro r x5 ⟨rfl, hp, hk⟩
  have HK5 : Hid (PenI S g s5 x5 ∧ Kept S g W6 x5) := ⟨hp, HK4.out.2.trans hk⟩
  clear hp hk HK4 q p0 m0 m1
  go_wp2_with fail
  rw [rounds_succ]
  have q := (HK5.out.2.cell (o := 5) sB.out.1 sB.out.2).trans (HCS.out 5)
  have p0 := (HK5.out.2.cell (o := 0) sP.out.1 sP.out.2).trans HCP.out
  have m0 := (HK5.out.2.cell (o := 12) sM.out.1 sM.out.2).trans (HCM.out 12)
  have m1 := (HK5.out.2.cell (o := 13) sM.out.1 sM.out.2).trans (HCM.out 13)
  go_wp2_with fail
  refine (rmcPut6_any e6 HK5.out.1 (by first | omega | simp) sP sM p0 m0 m1).mono ?_
  rintro r x6 ⟨rfl, hp, hk⟩
  have HK6 : Hid (PenI S g s6 x6 ∧ Kept S g W6 x6) := ⟨hp, HK5.out.2.trans hk⟩
  clear hp hk HK5 q p0 m0 m1
  go_wp2_with fail
  rw [rounds_succ]
  have q := (HK6.out.2.cell (o := 6) sB.out.1 sB.out.2).trans (HCS.out 6)
  have p0 := (HK6.out.2.cell (o := 0) sP.out.1 sP.out.2).trans HCP.out
  have m0 := (HK6.out.2.cell (o := 16) sM.out.1 sM.out.2).trans (HCM.out 16)
  have m1 := (HK6.out.2.cell (o := 17) sM.out.1 sM.out.2).trans (HCM.out 17)
  have m2 := (HK6.out.2.cell (o := 18) sM.out.1 sM.out.2).trans (HCM.out 18)
  have m3 := (HK6.out.2.cell (o := 19) sM.out.1 sM.out.2).trans (HCM.out 19)
  go_wp2_with fail
  refine (rmcPut7_any e7 HK6.out.1 (by first | omega | simp) sP sM p0 m0 m1 m2 m3).mono ?_
  rintro r x7 ⟨rfl, hp, hk⟩
  have HK7 : Hid (PenI S g s7 x7 ∧ Kept S g W6 x7) := ⟨hp, HK6.out.2.trans hk⟩
  clear hp hk HK6 q p0 m0 m1 m2 m3
  go_wp2_with fail
  rw [rounds_succ]
  have q := (HK7.out.2.cell (o := 7) sB.out.1 sB.out.2).trans (HCS.out 7)
  have p0 := (HK7.out.2.cell (o := 0) sP.out.1 sP.out.2).trans HCP.out
  have m0 := (HK7.out.2.cell (o := 0) sF.out.1 sF.out.2).trans (HCF.out 0)
  have m1 := (HK7.out.2.cell (o := 1) sF.out.1 sF.out.2).trans (HCF.out 1)
  go_wp2_with fail
  refine (rmcPut8_any e8 HK7.out.1 (by first | omega | simp) sP sF p0 m0 m1).mono ?_
  rintro r x8 ⟨rfl, hp, hk⟩
  have HK8 : Hid (PenI S g s8 x8 ∧ Kept S g W6 x8) := ⟨hp, HK7.out.2.trans hk⟩
  clear hp hk HK7 q p0 m0 m1
  go_wp2_with fail
  rw [rounds_succ]
  have q := (HK8.out.2.cell (o := 8) sB.out.1 sB.out.2).trans (HCS.out 8)
  have p0 := (HK8.out.2.cell (o := 0) sP.out.1 sP.out.2).trans HCP.out
  have m0 := (HK8.out.2.cell (o := 0) sD.out.1 sD.out.2).trans (HCD.out)
  go_wp2_with fail
  refine (rmcPut9_any e9 HK8.out.1 (by first | omega | simp) sP sD p0 m0).mono ?_
  rintro r x9 ⟨rfl, hp, hk⟩
  have HK9 : Hid (PenI S g s9 x9 ∧ Kept S g W6 x9) := ⟨hp, HK8.out.2.trans hk⟩
  clear hp hk HK8 q p0 m0
  go_wp2_with fail
  rw [rounds_succ]
  have p0 := (HK9.out.2.cell (o := 0) sP.out.1 sP.out.2).trans HCP.out
  have HB9 : Hid (Below w.heap.size w _) := HB6.out.trans (HK9.out.2.below HGW.out sW.out)
  go_wp2_with fail
  refine (penDone HK9.out.1 (by omega)).mono ?_
  intro r w7 h7
  have h8 := DonePost.put HB9.out h7
  rw [HX.out] at h8
  obtain ⟨v, rfl, h9⟩ := h8
  have H9 := Lib.hid h9
  clear h7 h9
  go_wp2_with fail
  go_ret2
  exact ⟨v, rfl, H9.out⟩
end Go.Proofs.YtfgopmfaeooadaaGreatDoor
