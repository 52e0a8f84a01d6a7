/- Layer 23: Angle of an eye, of a row that is read. -/
import Derived.Test.YtpaejoikfnmdhaaDoorEye23c
namespace Go.Proofs.YtpaejoikfnmdhaaDoor
set_option linter.unusedVariables false
open Go.RowKit
variable {Q : Nat → Prop}

set_option maxRecDepth 8000 in
set_option maxHeartbeats 4000000 in
theorem EyeAngle_any (g : Nat) (e : Int) (R : List ByteArray) (lat : Bool) (w : World) (h : EyeR Q w g e R) (hBw : ∀ b, Q b → b < w.heap.size) (hgw : g < w.heap.size) (hsz : (R.headD ByteArray.empty).size ≤ 1000000) :
    Calls Tryd.prog 28 #[.pointer (some ⟨g, 0, none⟩), .bool lat] w (EyePost Q g (numV (takeAng (R.headD ByteArray.empty).data.toList (R.tail.headD ByteArray.empty) lat).1 (takeAng (R.headD ByteArray.empty).data.toList (R.tail.headD ByteArray.empty) lat).2.1) (firstE (textE (textE e R) R.tail) (takeAng (R.headD ByteArray.empty).data.toList (R.tail.headD ByteArray.empty) lat).2.2) R.tail.tail w) := by
  have HT := fun W' hb => Lib.hid (EyeText_any (Q := Q) g e R W' (h.keep (w' := W') hb))
  have HU := fun W' hr => Lib.hid (EyeText_any (Q := Q) g (textE e R) R.tail W' hr)
  have HA := fun W' => Lib.hid (TakeAngle23_any (R.headD ByteArray.empty) (R.tail.headD ByteArray.empty) lat W' hsz)
  generalize (takeAng (R.headD ByteArray.empty).data.toList (R.tail.headD ByteArray.empty) lat).1 = X1 at *
  generalize (takeAng (R.headD ByteArray.empty).data.toList (R.tail.headD ByteArray.empty) lat).2.1 = X2 at *
  generalize (takeAng (R.headD ByteArray.empty).data.toList (R.tail.headD ByteArray.empty) lat).2.2 = E at *
  generalize R.tail.headD ByteArray.empty = d at *
  generalize R.headD ByteArray.empty = s at *
  generalize textE (textE e R) R.tail = e2 at *
  generalize R.tail.tail = R2 at *
  generalize textE e R = e1 at *
  generalize R.tail = R1 at *
  have HFL := fun W' hr => Lib.hid (EyeFail_any (Q := Q) g e2 E R2 W' hr)
  clear h hsz
  have HS : Hid (∀ o, (w.alloc (numO false 0)).cell? ⟨w.heap.size, o, none⟩ = (#[Value.bool false, .int .i64 0] : Array Value)[o]?) := fun o => by rw [World.cell?_alloc_at _ _ _ _ rfl]
  have HZ : Hid (∀ o, (w.alloc (numO false 0)).frozen? ⟨w.heap.size, o, none⟩ = false) := fun o => by rw [frozen?_alloc_cells]; exact frozen_past _ _ _ (by omega)
  have HBl : Hid (Below w.heap.size w (w.alloc (numO false 0))) := below_new w _
  have hs0 : (w.alloc (numO false 0)).heap.size = w.heap.size + 1 := by simp
  have HS0 := Lib.hid hs0
  clear hs0
  go_enter Tryd.func28, Tryd.ntmps28
  go_wp2_with fail
  refine (HT _ HBl.out).out.mono ?_
  rintro r w1 ⟨rfl, hr1, hf1⟩
  have z1 : w.heap.size + 1 ≤ w1.heap.size := by have := hf1.size; have := HS0.out; omega
  have HQ1 : Hid (∀ o, w1.cell? ⟨w.heap.size, o, none⟩ = (#[Value.bool false, .int .i64 0] : Array Value)[o]?) := fun o => (frm_cells hf1 (by have := HS0.out; omega) (by omega) o).trans (HS.out o)
  have HZ1 : Hid (∀ o, w1.frozen? ⟨w.heap.size, o, none⟩ = false) := fun o => (frm_frozen hf1 (by have := HS0.out; omega) (by omega) o).trans (HZ.out o)
  have HF1 := Lib.hid ((Frm.of_below (g := g) HBl.out).step hf1)
  have HR1 := Lib.hid hr1
  clear hr1 hf1 HS HZ HBl HS0 HT
  go_wp2_with fail
  refine (HU _ HR1.out).out.mono ?_
  rintro r w2 ⟨rfl, hr2, hf2⟩
  have z2 : w.heap.size + 1 ≤ w2.heap.size := Nat.le_trans z1 hf2.size
  have HQ2 : Hid (∀ o, w2.cell? ⟨w.heap.size, o, none⟩ = (#[Value.bool false, .int .i64 0] : Array Value)[o]?) := fun o => (frm_cells hf2 (by omega) (by omega) o).trans (HQ1.out o)
  have HZ2 : Hid (∀ o, w2.frozen? ⟨w.heap.size, o, none⟩ = false) := fun o => (frm_frozen hf2 (by omega) (by omega) o).trans (HZ1.out o)
  have HF2 := Lib.hid (HF1.out.step hf2)
  have HR2 := Lib.hid hr2
  clear hr2 hf2 HQ1 HZ1 HF1 HR1 HU
  go_wp2_with fail
  refine ((HA _).out).mono ?_
  rintro e w3 ⟨rfl, hb3⟩
  have z3 : w.heap.size + 1 ≤ w3.heap.size := Nat.le_trans z2 hb3.size
  have HB3 := Lib.hid (bthen hb3 (below_new w3 (numO X1 X2)))
  have HR3 := Lib.hid (HR2.out.keep HB3.out)
  have HF3 := Lib.hid (HF2.out.then_below HB3.out)
  have hq3 : ∀ o, (w3.alloc (numO X1 X2)).cell? ⟨w.heap.size, o, none⟩ = (#[Value.bool false, .int .i64 0] : Array Value)[o]? := fun o => ((bcell HB3.out).1 w.heap.size o (by omega)).trans (HQ2.out o)
  have hz3 : ∀ o, (w3.alloc (numO X1 X2)).frozen? ⟨w.heap.size, o, none⟩ = false := fun o => ((bcell HB3.out).2 w.heap.size o (by omega)).trans (HZ2.out o)
  have HQ3 := Lib.hid hq3
  have HZ3 := Lib.hid hz3
  clear hb3 hq3 hz3 HQ2 HZ2 HF2 HR2 HA HB3
  go_wp2_with fail
  refine (HFL _ HR3.out).out.mono ?_
  rintro r w4 ⟨rfl, hr4, hf4⟩
  have hs3 : (w3.alloc (numO X1 X2)).heap.size = w3.heap.size + 1 := by simp
  have z4 : w3.heap.size + 1 ≤ w4.heap.size := by have := hf4.size; omega
  have p0 : w4.cell? ⟨w.heap.size, 0, none⟩ = some (.bool false) := (frm_cells hf4 (by omega) (by omega) 0).trans (HQ3.out 0)
  have p1 : w4.cell? ⟨w.heap.size, 1, none⟩ = some (.int .i64 0) := (frm_cells hf4 (by omega) (by omega) 1).trans (HQ3.out 1)
  have y0 := (frm_frozen hf4 (b := w.heap.size) (by omega) (by omega) 0).trans (HZ3.out 0)
  have y1 := (frm_frozen hf4 (b := w.heap.size) (by omega) (by omega) 1).trans (HZ3.out 1)
  have x0 : w4.cell? ⟨w3.heap.size, 0, none⟩ = some (.bool X1) := (frm_cells hf4 (by omega) (by omega) 0).trans (by simp [World.cell?_alloc_at])
  have x1 : w4.cell? ⟨w3.heap.size, 1, none⟩ = some (.int .i64 X2) := (frm_cells hf4 (by omega) (by omega) 1).trans (by simp [World.cell?_alloc_at])
  have HR4 := Lib.hid hr4
  have HF4 := Lib.hid (HF3.out.step hf4)
  clear hr4 hf4 hs3 HQ3 HZ3 HF3 HR3 HFL
  go_wp2_with fail
  obtain ⟨k0, k1⟩ := two_cells w4 w.heap.size (.bool X1) (.int .i64 X2) _ _ p0 p1
  refine bodyPost_ret (v := numV X1 X2) (by simp [results, Tryd.results28, go_sem, k0, k1]) rfl ⟨rfl, ?_, ?_⟩
  · exact (HR4.out.far (fun q => by have := hBw _ q; omega) (by omega)).far (fun q => by have := hBw _ q; omega) (by omega)
  · exact (HF4.out.put (Nat.le_refl _)).put (Nat.le_refl _)

set_option maxRecDepth 8000 in
set_option maxHeartbeats 4000000 in
theorem RowTAngle_any (g : Nat) (e : Int) (R : List ByteArray) (lat : Bool) (w : World) (h : RowR Q w g e R) (hBw : ∀ b, Q b → b < w.heap.size) (hgw : g < w.heap.size) (hsz : (R.headD ByteArray.empty).size ≤ 1000000) :
    Calls Tryd.prog 37 #[.pointer (some ⟨g, 0, none⟩), .bool lat] w (RowRPost Q g (numV (takeAng (R.headD ByteArray.empty).data.toList (R.tail.headD ByteArray.empty) lat).1 (takeAng (R.headD ByteArray.empty).data.toList (R.tail.headD ByteArray.empty) lat).2.1) (firstE (textE (textE e R) R.tail) (takeAng (R.headD ByteArray.empty).data.toList (R.tail.headD ByteArray.empty) lat).2.2) R.tail.tail w) := by
  have HT := fun W' hb => Lib.hid (RowText1_any (Q := Q) g e R W' (h.keep (w' := W') hb))
  have HU := fun W' hr => Lib.hid (RowText1_any (Q := Q) g (textE e R) R.tail W' hr)
  have HA := fun W' => Lib.hid (r23TakeAngle_any (R.headD ByteArray.empty) (R.tail.headD ByteArray.empty) lat W' hsz)
  generalize (takeAng (R.headD ByteArray.empty).data.toList (R.tail.headD ByteArray.empty) lat).1 = X1 at *
  generalize (takeAng (R.headD ByteArray.empty).data.toList (R.tail.headD ByteArray.empty) lat).2.1 = X2 at *
  generalize (takeAng (R.headD ByteArray.empty).data.toList (R.tail.headD ByteArray.empty) lat).2.2 = E at *
  generalize R.tail.headD ByteArray.empty = d at *
  generalize R.headD ByteArray.empty = s at *
  generalize textE (textE e R) R.tail = e2 at *
  generalize R.tail.tail = R2 at *
  generalize textE e R = e1 at *
  generalize R.tail = R1 at *
  have HFL := fun W' hr => Lib.hid (RowFirst_any (Q := Q) g e2 E R2 W' hr)
  clear h hsz
  have HS : Hid (∀ o, (w.alloc (numO false 0)).cell? ⟨w.heap.size, o, none⟩ = (#[Value.bool false, .int .i64 0] : Array Value)[o]?) := fun o => by rw [World.cell?_alloc_at _ _ _ _ rfl]
  have HZ : Hid (∀ o, (w.alloc (numO false 0)).frozen? ⟨w.heap.size, o, none⟩ = false) := fun o => by rw [frozen?_alloc_cells]; exact frozen_past _ _ _ (by omega)
  have HBl : Hid (Below w.heap.size w (w.alloc (numO false 0))) := below_new w _
  have hs0 : (w.alloc (numO false 0)).heap.size = w.heap.size + 1 := by simp
  have HS0 := Lib.hid hs0
  clear hs0
  go_enter Tryd.func37, Tryd.ntmps37
  go_wp2_with fail
  refine (HT _ HBl.out).out.mono ?_
  rintro r w1 ⟨rfl, hr1, hf1⟩
  have z1 : w.heap.size + 1 ≤ w1.heap.size := by have := hf1.size; have := HS0.out; omega
  have HQ1 : Hid (∀ o, w1.cell? ⟨w.heap.size, o, none⟩ = (#[Value.bool false, .int .i64 0] : Array Value)[o]?) := fun o => (frm_cells hf1 (by have := HS0.out; omega) (by omega) o).trans (HS.out o)
  have HZ1 : Hid (∀ o, w1.frozen? ⟨w.heap.size, o, none⟩ = false) := fun o => (frm_frozen hf1 (by have := HS0.out; omega) (by omega) o).trans (HZ.out o)
  have HF1 := Lib.hid ((Frm.of_below (g := g) HBl.out).step hf1)
  have HR1 := Lib.hid hr1
  clear hr1 hf1 HS HZ HBl HS0 HT
  go_wp2_with fail
  refine (HU _ HR1.out).out.mono ?_
  rintro r w2 ⟨rfl, hr2, hf2⟩
  have z2 : w.heap.size + 1 ≤ w2.heap.size := Nat.le_trans z1 hf2.size
  have HQ2 : Hid (∀ o, w2.cell? ⟨w.heap.size, o, none⟩ = (#[Value.bool false, .int .i64 0] : Array Value)[o]?) := fun o => (frm_cells hf2 (by omega) (by omega) o).trans (HQ1.out o)
  have HZ2 : Hid (∀ o, w2.frozen? ⟨w.heap.size, o, none⟩ = false) := fun o => (frm_frozen hf2 (by omega) (by omega) o).trans (HZ1.out o)
  have HF2 := Lib.hid (HF1.out.step hf2)
  have HR2 := Lib.hid hr2
  clear hr2 hf2 HQ1 HZ1 HF1 HR1 HU
  go_wp2_with fail
  refine ((HA _).out).mono ?_
  rintro e w3 ⟨rfl, hb3⟩
  have z3 : w.heap.size + 1 ≤ w3.heap.size := Nat.le_trans z2 hb3.size
  have HB3 := Lib.hid (bthen hb3 (below_new w3 (numO X1 X2)))
  have HR3 := Lib.hid (HR2.out.keep HB3.out)
  have HF3 := Lib.hid (HF2.out.then_below HB3.out)
  have hq3 : ∀ o, (w3.alloc (numO X1 X2)).cell? ⟨w.heap.size, o, none⟩ = (#[Value.bool false, .int .i64 0] : Array Value)[o]? := fun o => ((bcell HB3.out).1 w.heap.size o (by omega)).trans (HQ2.out o)
  have hz3 : ∀ o, (w3.alloc (numO X1 X2)).frozen? ⟨w.heap.size, o, none⟩ = false := fun o => ((bcell HB3.out).2 w.heap.size o (by omega)).trans (HZ2.out o)
  have HQ3 := Lib.hid hq3
  have HZ3 := Lib.hid hz3
  clear hb3 hq3 hz3 HQ2 HZ2 HF2 HR2 HA HB3
  go_wp2_with fail
  refine (HFL _ HR3.out).out.mono ?_
  rintro r w4 ⟨rfl, hr4, hf4⟩
  have hs3 : (w3.alloc (numO X1 X2)).heap.size = w3.heap.size + 1 := by simp
  have z4 : w3.heap.size + 1 ≤ w4.heap.size := by have := hf4.size; omega
  have p0 : w4.cell? ⟨w.heap.size, 0, none⟩ = some (.bool false) := (frm_cells hf4 (by omega) (by omega) 0).trans (HQ3.out 0)
  have p1 : w4.cell? ⟨w.heap.size, 1, none⟩ = some (.int .i64 0) := (frm_cells hf4 (by omega) (by omega) 1).trans (HQ3.out 1)
  have y0 := (frm_frozen hf4 (b := w.heap.size) (by omega) (by omega) 0).trans (HZ3.out 0)
  have y1 := (frm_frozen hf4 (b := w.heap.size) (by omega) (by omega) 1).trans (HZ3.out 1)
  have x0 : w4.cell? ⟨w3.heap.size, 0, none⟩ = some (.bool X1) := (frm_cells hf4 (by omega) (by omega) 0).trans (by simp [World.cell?_alloc_at])
  have x1 : w4.cell? ⟨w3.heap.size, 1, none⟩ = some (.int .i64 X2) := (frm_cells hf4 (by omega) (by omega) 1).trans (by simp [World.cell?_alloc_at])
  have HR4 := Lib.hid hr4
  have HF4 := Lib.hid (HF3.out.step hf4)
  clear hr4 hf4 hs3 HQ3 HZ3 HF3 HR3 HFL
  go_wp2_with fail
  obtain ⟨k0, k1⟩ := two_cells w4 w.heap.size (.bool X1) (.int .i64 X2) _ _ p0 p1
  refine bodyPost_ret (v := numV X1 X2) (by simp [results, Tryd.results37, go_sem, k0, k1]) rfl ⟨rfl, ?_, ?_⟩
  · exact (HR4.out.far (fun q => by have := hBw _ q; omega) (by omega)).far (fun q => by have := hBw _ q; omega) (by omega)
  · exact (HF4.out.put (Nat.le_refl _)).put (Nat.le_refl _)

end Go.Proofs.YtpaejoikfnmdhaaDoor
