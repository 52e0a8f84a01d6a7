/- Layer 25: the eye's time, digit, unit. Printed by genggae.py. -/
import Derived.Test.YtfgopmfaeooadaaDoorMzf
import Derived.Test.YtfgopmfaeooadaaDoorMz8
import Derived.Test.YtfgopmfaeooadaaDoorMsa
namespace Go.Proofs.YtfgopmfaeooadaaDoor
set_option linter.unusedVariables false
open Go.RowKit

abbrev eyeO (g : Nat) : Obj := .cells #[.pointer (some ⟨g, 0, none⟩)] 48
abbrev eyeV (g : Nat) : Value := .agg #[.pointer (some ⟨g, 0, none⟩)]
theorem eye_text_small {g : Nat} {s t : Rd} {a : ByteArray} {w : World} (ha : Hid (rdText s = (a, t))) (hp : EyeI g s w) : a.size ≤ 1000000 := by
  have := ha.out
  unfold rdText at this
  injection this with e _
  rw [← e]
  exact headD_small hp.choose_spec.2.2
theorem box_eye (w : World) (g : Nat) : (w.alloc (eyeO g)).cell? ⟨w.heap.size, 0, none⟩ = some (.pointer (some ⟨g, 0, none⟩)) := World.cell?_alloc_at _ _ _ _ rfl
set_option maxRecDepth 8000 in
set_option maxHeartbeats 4000000 in
theorem ggatime_any {g : Nat} {s t : Rd} {b : Bool} {h m c e : Int} {w : World} (ht : Hid (rdClk s = ((b, h, m, c, e), t))) (hp : EyeI g s w) : Calls Tryd.prog 18 #[eyeV g] w (EyeStep g (clkV b h m c e) t w) := by
  obtain ⟨a, s1, ha⟩ : ∃ a s1, Hid (rdText s = (a, s1)) := ⟨_, _, rfl⟩
  have hsm := eye_text_small ha hp
  obtain ⟨E, ht1, ht2⟩ : ∃ E, Hid (takeClk a.data.toList = ((b, h, m, c, e), E)) ∧ Hid (rdFail E s1 = t) := by
    have q := ht.out
    unfold rdClk at q
    rw [ha.out] at q
    injection q with q1 q2
    exact ⟨_, Prod.ext q1 rfl, q2⟩
  have hgl := hp.lt
  have hb0 := below_new w (eyeO g)
  have hb1 := below_new (w.alloc (eyeO g)) (clkO false 0 0 0 0)
  have hz0 : (w.alloc (eyeO g)).heap.size = w.heap.size + 1 := by simp
  have HX0 := Lib.hid ((hp.keep hb0).keep hb1)
  have HF0 : Hid (Frm g nilV w ((w.alloc (eyeO g)).alloc (clkO false 0 0 0 0))) := Frm.of_below (bthen hb0 hb1)
  have p0 : ((w.alloc (eyeO g)).alloc (clkO false 0 0 0 0)).cell? ⟨w.heap.size, 0, none⟩ = some (.pointer (some ⟨g, 0, none⟩)) := (World.cell?_alloc_past _ _ _ (by simp)).trans (box_eye w g)
  have HP0 := Lib.hid p0
  have HR0 : Hid (∀ o, ((w.alloc (eyeO g)).alloc (clkO false 0 0 0 0)).cell? ⟨w.heap.size + 1, o, none⟩ = (#[Value.bool false, .int .i64 0, .int .i64 0, .int .i64 0, .int .i64 0] : Array Value)[o]?) := fun o => World.cell?_alloc_at _ _ _ _ hz0.symm
  have HRF : Hid (∀ o, ((w.alloc (eyeO g)).alloc (clkO false 0 0 0 0)).frozen? ⟨w.heap.size + 1, o, none⟩ = false) := fun o => by rw [frozen?_alloc_cells, frozen?_alloc_cells]; exact frozen_past _ _ _ (by omega)
  have HZ : Hid (w.heap.size + 1 < ((w.alloc (eyeO g)).alloc (clkO false 0 0 0 0)).heap.size ∧ g < w.heap.size) := ⟨by simp, hgl⟩
  clear hb0 hb1 hz0 hp hgl ht
  go_enter Tryd.func18, Tryd.ntmps18
  go_wp2_with fail
  generalize hW0 : (w.alloc (eyeO g)).alloc (clkO false 0 0 0 0) = W0 at *
  refine (eyeText ha HX0.out).mono ?_
  rintro r w1 ⟨rfl, hx1, hf1⟩
  have HX1 := Lib.hid hx1
  have HF1 := Lib.hid hf1
  clear hx1 hf1 hW0 HX0
  go_wp2_with fail
  refine (clkTake_any a w1 hsm).mono ?_
  rw [ht1.out]
  rintro r w2 ⟨rfl, hb2⟩
  dsimp only
  have hbc := below_new w2 (clkO b h m c e)
  have HX3 : Hid (EyeI g s1 (w2.alloc (clkO b h m c e))) := (HX1.out.keep hb2).keep hbc
  have HF3 : Hid (Frm g nilV W0 (w2.alloc (clkO b h m c e))) := HF1.out.step (Frm.of_below (bthen hb2 hbc))
  have HC3 : Hid (∀ o, (w2.alloc (clkO b h m c e)).cell? ⟨w2.heap.size, o, none⟩ = (#[Value.bool b, .int .i64 h, .int .i64 m, .int .i64 c, .int .i64 e] : Array Value)[o]?) := fun o => World.cell?_alloc_at _ _ _ _ rfl
  have HZ3 : Hid (w2.heap.size < (w2.alloc (clkO b h m c e)).heap.size ∧ W0.heap.size ≤ w2.heap.size) := ⟨by simp, by have := HF1.out.size; have := hb2.size; omega⟩
  have p3 : (w2.alloc (clkO b h m c e)).cell? ⟨w.heap.size, 0, none⟩ = some (.pointer (some ⟨g, 0, none⟩)) := (frm_cells HF3.out (by have := HZ.out; omega) (by have := HZ.out; omega) 0).trans HP0.out
  clear hbc hb2 HX1 HF1 p0
  go_wp2_with fail
  generalize hW3 : w2.alloc (clkO b h m c e) = W3 at *
  clear hW3 p3
  refine (eyeFail ht2 HX3.out).mono ?_
  rintro r w4 ⟨rfl, hx4, hf4⟩
  have HX4 := Lib.hid hx4
  have HF4 := Lib.hid (HF3.out.step hf4)
  have hc4 : ∀ o, w4.cell? ⟨w2.heap.size, o, none⟩ = (#[Value.bool b, .int .i64 h, .int .i64 m, .int .i64 c, .int .i64 e] : Array Value)[o]? := fun o => (frm_cells hf4 HZ3.out.1 (by have := HZ.out; have := HZ3.out; omega) o).trans (HC3.out o)
  have hr4 : ∀ o, w4.cell? ⟨w.heap.size + 1, o, none⟩ = (#[Value.bool false, .int .i64 0, .int .i64 0, .int .i64 0, .int .i64 0] : Array Value)[o]? := fun o => (frm_cells HF4.out HZ.out.1 (by have := HZ.out; omega) o).trans (HR0.out o)
  have fz : ∀ o, w4.frozen? ⟨w.heap.size + 1, o, none⟩ = false := fun o => (frm_frozen HF4.out HZ.out.1 (by have := HZ.out; omega) o).trans (HRF.out o)
  have HF5 := Lib.hid (HF0.out.step HF4.out)
  have c0 := hc4 0
  have c1 := hc4 1
  have c2 := hc4 2
  have c3 := hc4 3
  have c4 := hc4 4
  have r0 := hr4 0
  have r1 := hr4 1
  have r2 := hr4 2
  have r3 := hr4 3
  have r4 := hr4 4
  have HOLD : Hid (∀ o, o < 5 → ∃ v, w4.cell? ⟨w.heap.size + 1, o, none⟩ = some v) := fun o ho => by rw [hr4 o]; rcases (by omega : o = 0 ∨ o = 1 ∨ o = 2 ∨ o = 3 ∨ o = 4) with rfl | rfl | rfl | rfl | rfl <;> exact ⟨_, rfl⟩
  clear hx4 hf4 hc4 hr4 HC3 HR0 HRF HF3 HX3 HF0 HF4
  go_wp2_with fail
  have hd := set5 (W := w4) (g := w.heap.size + 1) (a := .bool b) (b := .int .i64 h) (c := .int .i64 m) (d := .int .i64 c) (e := .int .i64 e) HOLD.out
  have d0 := hd 0 (by omega)
  have d1 := hd 1 (by omega)
  have d2 := hd 2 (by omega)
  have d3 := hd 3 (by omega)
  have d4 := hd 4 (by omega)
  simp at d0 d1 d2 d3 d4
  have hG : g < w.heap.size + 1 := by have := HZ.out.2; omega
  refine bodyPost_ret (v := clkV b h m c e) (by simp [results, Tryd.results18, go_sem, d0, d1, d2, d3, d4]) rfl ⟨rfl, ?_, ?_⟩
  · exact ((((HX4.out.far hG).far hG).far hG).far hG).far hG
  · exact ((((HF5.out.put (Nat.le_succ _)).put (Nat.le_succ _)).put (Nat.le_succ _)).put (Nat.le_succ _)).put (Nat.le_succ _)

set_option maxRecDepth 8000 in
set_option maxHeartbeats 4000000 in
theorem ggadigit_any {g : Nat} {s t : Rd} {n : Int} {w : World} (ht : Hid (rdDig 0 8 s = (n, t))) (hp : EyeI g s w) : Calls Tryd.prog 19 #[eyeV g] w (EyeStep g (.int .i64 n) t w) := by
  obtain ⟨a, s1, ha⟩ : ∃ a s1, Hid (rdText s = (a, s1)) := ⟨_, _, rfl⟩
  obtain ⟨hw1, hw2, hw3⟩ := rdDig_ways (lo := 0) (hi := 8) ha.out
  have ht := ht.out
  have hgl := hp.lt
  have hb0 := below_new w (eyeO g)
  have HP := Lib.hid (hp.keep hb0)
  have HF0 : Hid (Frm g nilV w (w.alloc (eyeO g))) := Frm.of_below hb0
  have p0 := box_eye w g
  have HP0 := Lib.hid p0
  have HZ : Hid (g < w.heap.size ∧ w.heap.size < (w.alloc (eyeO g)).heap.size) := ⟨hgl, by simp⟩
  clear hp hb0 hgl
  rcases dig_ways a with ⟨hb, h1⟩ | ⟨hz, h1, ⟨h2, hb⟩ | ⟨h2, hb⟩ | ⟨h2, h3, hb, hv⟩⟩
  · have e := hw1 hb
    rw [e] at ht
    injection ht with e1 e2
    subst e1 e2
    clear e hw1 hw2 hw3 hb
    have i1 : ((a.size : Int) == 1) = false := by rw [beq_eq_false_iff_ne]; omega
    go_enter Tryd.func19, Tryd.ntmps19
    go_wp2_with fail
    generalize hW0 : w.alloc (eyeO g) = W0 at *
    refine (eyeText ha HP.out).mono ?_
    rintro r w1 ⟨rfl, hx, hf⟩
    have HX := Lib.hid hx
    have HF := Lib.hid (HF0.out.step hf)
    have p1 := (frm_cells hf (b := w.heap.size) HZ.out.2 (by have := HZ.out.1; omega) 0).trans HP0.out
    clear hx hf HP HF0
    go_wp2_with fail
    refine (eyeFail rfl HX.out).mono ?_
    rintro r w2 ⟨rfl, hx2, hf2⟩
    have HX2 := Lib.hid hx2
    have HF2 := Lib.hid (HF.out.step hf2)
    clear hx2 hf2
    go_wp2_with fail
    go_ret
    exact ⟨rfl, HX2.out, HF2.out⟩
  · have e := hw1 hb
    rw [e] at ht
    injection ht with e1 e2
    subst e1 e2
    clear e hw1 hw2 hw3 hb
    have i1 : ((a.size : Int) == 1) = true := by rw [beq_iff_eq]; omega
    have i2 : ((a[0].toNat : Nat) : Int) < 48 := by omega
    go_enter Tryd.func19, Tryd.ntmps19
    go_wp2_with fail
    generalize hW0 : w.alloc (eyeO g) = W0 at *
    refine (eyeText ha HP.out).mono ?_
    rintro r w1 ⟨rfl, hx, hf⟩
    have HX := Lib.hid hx
    have HF := Lib.hid (HF0.out.step hf)
    have p1 := (frm_cells hf (b := w.heap.size) HZ.out.2 (by have := HZ.out.1; omega) 0).trans HP0.out
    clear hx hf HP HF0
    go_wp2_with fail
    refine (eyeFail rfl HX.out).mono ?_
    rintro r w2 ⟨rfl, hx2, hf2⟩
    have HX2 := Lib.hid hx2
    have HF2 := Lib.hid (HF.out.step hf2)
    clear hx2 hf2
    go_wp2_with fail
    go_ret
    exact ⟨rfl, HX2.out, HF2.out⟩
  · have e := hw1 hb
    rw [e] at ht
    injection ht with e1 e2
    subst e1 e2
    clear e hw1 hw2 hw3 hb
    have i1 : ((a.size : Int) == 1) = true := by rw [beq_iff_eq]; omega
    have i2 : (48 : Int) ≤ ((a[0].toNat : Nat) : Int) := by omega
    have i3 : (57 : Int) < ((a[0].toNat : Nat) : Int) := by omega
    go_enter Tryd.func19, Tryd.ntmps19
    go_wp2_with fail
    generalize hW0 : w.alloc (eyeO g) = W0 at *
    refine (eyeText ha HP.out).mono ?_
    rintro r w1 ⟨rfl, hx, hf⟩
    have HX := Lib.hid hx
    have HF := Lib.hid (HF0.out.step hf)
    have p1 := (frm_cells hf (b := w.heap.size) HZ.out.2 (by have := HZ.out.1; omega) 0).trans HP0.out
    clear hx hf HP HF0
    go_wp2_with fail
    refine (eyeFail rfl HX.out).mono ?_
    rintro r w2 ⟨rfl, hx2, hf2⟩
    have HX2 := Lib.hid hx2
    have HF2 := Lib.hid (HF.out.step hf2)
    clear hx2 hf2
    go_wp2_with fail
    go_ret
    exact ⟨rfl, HX2.out, HF2.out⟩
  · have i1 : ((a.size : Int) == 1) = true := by rw [beq_iff_eq]; omega
    have i2 : (48 : Int) ≤ ((a[0].toNat : Nat) : Int) := by omega
    have i3 : ((a[0].toNat : Nat) : Int) ≤ 57 := by omega
    rw [hv] at hw2 hw3
    by_cases hq : (a[0].toNat : Int) - 48 < 0 ∨ 8 < (a[0].toNat : Int) - 48
    · have e := hw2 hb hq
      rw [e] at ht
      injection ht with e1 e2
      subst e1 e2
      have q2 : 56 < (a[0].toNat : Int) := by omega
      clear e hw1 hw2 hw3 hb hv hq
      go_enter Tryd.func19, Tryd.ntmps19
      go_wp2_with fail
      generalize hW0 : w.alloc (eyeO g) = W0 at *
      refine (eyeText ha HP.out).mono ?_
      rintro r w1 ⟨rfl, hx, hf⟩
      have HX := Lib.hid hx
      have HF := Lib.hid (HF0.out.step hf)
      have p1 := (frm_cells hf (b := w.heap.size) HZ.out.2 (by have := HZ.out.1; omega) 0).trans HP0.out
      clear hx hf HP HF0
      go_wp2_with fail
      refine (eyeFail rfl HX.out).mono ?_
      rintro r w2 ⟨rfl, hx2, hf2⟩
      have HX2 := Lib.hid hx2
      have HF2 := Lib.hid (HF.out.step hf2)
      clear hx2 hf2
      go_wp2_with fail
      go_ret
      exact ⟨rfl, HX2.out, HF2.out⟩
    · have e := hw3 hb hq
      rw [e] at ht
      injection ht with e1 e2
      subst e1 e2
      have q2 : (a[0].toNat : Int) ≤ 56 := by omega
      clear e hw1 hw2 hw3 hb hv hq
      go_enter Tryd.func19, Tryd.ntmps19
      go_wp2_with fail
      generalize hW0 : w.alloc (eyeO g) = W0 at *
      refine (eyeText ha HP.out).mono ?_
      rintro r w1 ⟨rfl, hx, hf⟩
      have HX := Lib.hid hx
      have HF := Lib.hid (HF0.out.step hf)
      have p1 := (frm_cells hf (b := w.heap.size) HZ.out.2 (by have := HZ.out.1; omega) 0).trans HP0.out
      clear hx hf HP HF0
      go_wp2_with fail
      go_ret
      exact ⟨rfl, HX.out, HF.out⟩
set_option maxRecDepth 8000 in
set_option maxHeartbeats 4000000 in
theorem ggaunit_any {g : Nat} {s t : Rd} {b : Bool} {n : Int} {w : World} (ht : Hid (rdUnit ⟨#[77]⟩ b s = t)) (hp : EyeI g s w) : Calls Tryd.prog 23 #[eyeV g, numV b n] w (EyeStep g (.tuple #[]) t w) := by
  obtain ⟨a, s1, ha⟩ : ∃ a s1, Hid (rdText s = (a, s1)) := ⟨_, _, rfl⟩
  have ht2 : t = if a ≠ ⟨#[77]⟩ ∧ (b = true ∨ a ≠ ByteArray.empty) then rdFail 3 s1 else s1 := by
    have q := ht.out
    unfold rdUnit at q
    rw [ha.out] at q
    exact q.symm
  have hways := unit_ways a ⟨#[77]⟩ b s1
  rw [← ht2, show (⟨#[77]⟩ : ByteArray).toList = [77] by rw [ByteArray.toList_eq]] at hways
  have hgl := hp.lt
  have hb0 := below_new w (eyeO g)
  have hb1 := below_new (w.alloc (eyeO g)) (.cells #[.bool b, .int .i64 n] 28)
  have hz0 : (w.alloc (eyeO g)).heap.size = w.heap.size + 1 := by simp
  have HP := Lib.hid ((hp.keep hb0).keep hb1)
  have HF0 : Hid (Frm g nilV w ((w.alloc (eyeO g)).alloc (.cells #[.bool b, .int .i64 n] 28))) := Frm.of_below (bthen hb0 hb1)
  have p0 : ((w.alloc (eyeO g)).alloc (.cells #[.bool b, .int .i64 n] 28)).cell? ⟨w.heap.size, 0, none⟩ = some (.pointer (some ⟨g, 0, none⟩)) := (World.cell?_alloc_past _ _ _ (by simp)).trans (box_eye w g)
  have HP0 := Lib.hid p0
  have HN0 : Hid (((w.alloc (eyeO g)).alloc (.cells #[.bool b, .int .i64 n] 28)).cell? ⟨w.heap.size + 1, 0, none⟩ = some (.bool b)) := World.cell?_alloc_at _ _ _ _ hz0.symm
  have HZ : Hid (g < w.heap.size ∧ w.heap.size < ((w.alloc (eyeO g)).alloc (.cells #[.bool b, .int .i64 n] 28)).heap.size) := ⟨hgl, by simp; omega⟩
  have HZN : Hid (w.heap.size + 1 < ((w.alloc (eyeO g)).alloc (.cells #[.bool b, .int .i64 n] 28)).heap.size) := by show _ < _; simp
  clear hp hb0 hb1 hz0 hgl ht2 ht
  rcases hways with ⟨k1, hq⟩ | ⟨k1, kb, hq⟩ | ⟨k1, kb, k2, hq⟩ | ⟨k1, kb, k2, hq⟩
  · subst hq
    go_enter Tryd.func23, Tryd.ntmps23
    go_wp2_with fail
    generalize hW0 : (w.alloc (eyeO g)).alloc (.cells #[.bool b, .int .i64 n] 28) = W0 at *
    refine (eyeText ha HP.out).mono ?_
    rintro r w1 ⟨rfl, hx, hf⟩
    have HX := Lib.hid hx
    have HF := Lib.hid (HF0.out.step hf)
    have p1 := (frm_cells hf (b := w.heap.size) HZ.out.2 (by have := HZ.out.1; omega) 0).trans HP0.out
    have n1 := (frm_cells hf (b := w.heap.size + 1) HZN.out (by have := HZ.out.1; omega) 0).trans HN0.out
    clear hx hf HP HF0
    go_wp2_with fail
    go_end0
    exact ⟨rfl, HX.out, HF.out⟩
  · subst kb hq
    go_enter Tryd.func23, Tryd.ntmps23
    go_wp2_with fail
    generalize hW0 : (w.alloc (eyeO g)).alloc (.cells #[.bool true, .int .i64 n] 28) = W0 at *
    refine (eyeText ha HP.out).mono ?_
    rintro r w1 ⟨rfl, hx, hf⟩
    have HX := Lib.hid hx
    have HF := Lib.hid (HF0.out.step hf)
    have p1 := (frm_cells hf (b := w.heap.size) HZ.out.2 (by have := HZ.out.1; omega) 0).trans HP0.out
    have n1 := (frm_cells hf (b := w.heap.size + 1) HZN.out (by have := HZ.out.1; omega) 0).trans HN0.out
    clear hx hf HP HF0
    go_wp2_with fail
    refine (eyeFail rfl HX.out).mono ?_
    rintro r w2 ⟨rfl, hx2, hf2⟩
    have HX2 := Lib.hid hx2
    have HF2 := Lib.hid (HF.out.step hf2)
    clear hx2 hf2
    go_wp2_with fail
    go_end0
    exact ⟨rfl, HX2.out, HF2.out⟩
  · subst kb hq
    go_enter Tryd.func23, Tryd.ntmps23
    go_wp2_with fail
    generalize hW0 : (w.alloc (eyeO g)).alloc (.cells #[.bool false, .int .i64 n] 28) = W0 at *
    refine (eyeText ha HP.out).mono ?_
    rintro r w1 ⟨rfl, hx, hf⟩
    have HX := Lib.hid hx
    have HF := Lib.hid (HF0.out.step hf)
    have p1 := (frm_cells hf (b := w.heap.size) HZ.out.2 (by have := HZ.out.1; omega) 0).trans HP0.out
    have n1 := (frm_cells hf (b := w.heap.size + 1) HZN.out (by have := HZ.out.1; omega) 0).trans HN0.out
    clear hx hf HP HF0
    go_wp2_with fail
    refine (eyeFail rfl HX.out).mono ?_
    rintro r w2 ⟨rfl, hx2, hf2⟩
    have HX2 := Lib.hid hx2
    have HF2 := Lib.hid (HF.out.step hf2)
    clear hx2 hf2
    go_wp2_with fail
    go_end0
    exact ⟨rfl, HX2.out, HF2.out⟩
  · subst kb hq
    go_enter Tryd.func23, Tryd.ntmps23
    go_wp2_with fail
    generalize hW0 : (w.alloc (eyeO g)).alloc (.cells #[.bool false, .int .i64 n] 28) = W0 at *
    refine (eyeText ha HP.out).mono ?_
    rintro r w1 ⟨rfl, hx, hf⟩
    have HX := Lib.hid hx
    have HF := Lib.hid (HF0.out.step hf)
    have p1 := (frm_cells hf (b := w.heap.size) HZ.out.2 (by have := HZ.out.1; omega) 0).trans HP0.out
    have n1 := (frm_cells hf (b := w.heap.size + 1) HZN.out (by have := HZ.out.1; omega) 0).trans HN0.out
    clear hx hf HP HF0
    go_wp2_with fail
    go_end0
    exact ⟨rfl, HX.out, HF.out⟩
end Go.Proofs.YtfgopmfaeooadaaDoor
