/- Layer 29: a book's first message, of no views; knows. -/
import Derived.Test.YteofmahbimkggaaDoorMgb
import Derived.Deep.QuietTactic
import Derived.Deep.RegionHeld3
import Derived.Lib.SliceRun
namespace Go.Proofs.YteofmahbimkggaaDoor
set_option linter.unusedVariables false
open Go.RowKit

abbrev bookC (m : Bool) (T N : Int) (v : Value) : Array Value := #[.bool m, .int .i64 T, .int .i64 N, v]
/-- A book of no views. -/
structure Book0 (w : World) (g : Nat) (T N : Int) : Prop where
  c0 : w.cell? ⟨g, 0, none⟩ = some (.bool true)
  c1 : w.cell? ⟨g, 1, none⟩ = some (.int .i64 T)
  c2 : w.cell? ⟨g, 2, none⟩ = some (.int .i64 N)
  c3 : w.cell? ⟨g, 3, none⟩ = some (.slice none 0 0)
  z1 : w.frozen? ⟨g, 1, none⟩ = false
  z2 : w.frozen? ⟨g, 2, none⟩ = false
  z3 : w.frozen? ⟨g, 3, none⟩ = false
  lt : g < w.heap.size
theorem Book0.keep {w w' : World} {g : Nat} {T N : Int} (h : Book0 w g T N) (hb : Below w.heap.size w w') : Book0 w' g T N :=
  ⟨((bcell hb).1 g 0 h.lt).trans h.c0, ((bcell hb).1 g 1 h.lt).trans h.c1, ((bcell hb).1 g 2 h.lt).trans h.c2, ((bcell hb).1 g 3 h.lt).trans h.c3, ((bcell hb).2 g 1 h.lt).trans h.z1, ((bcell hb).2 g 2 h.lt).trans h.z2, ((bcell hb).2 g 3 h.lt).trans h.z3, Nat.lt_of_lt_of_le h.lt hb.size⟩
theorem Book0.set {w : World} {g : Nat} {T N : Int} (h : Book0 w g T N) (T' N' : Int) : Book0 ((w.setCell ⟨g, 1, none⟩ (.int .i64 T')).setCell ⟨g, 2, none⟩ (.int .i64 N')) g T' N' := by
  have o : ∀ (w : World) (i j : Nat) (u : Value), i ≠ j → (w.setCell ⟨g, i, none⟩ u).cell? ⟨g, j, none⟩ = w.cell? ⟨g, j, none⟩ := fun w i j u hij => World.cell?_setCell_other _ _ _ _ (fun q => by injection q with _ q; exact hij q)
  refine ⟨?_, ?_, ?_, ?_, by simpa using h.z1, by simpa using h.z2, by simpa using h.z3, by simpa using h.lt⟩
  · rw [o _ _ _ _ (by omega), o _ _ _ _ (by omega)]; exact h.c0
  · rw [o _ _ _ _ (by omega), World.cell?_setCell_same _ _ _ h.c1]
  · rw [World.cell?_setCell_same _ _ _ ((o _ _ _ _ (by omega)).trans h.c2)]
  · rw [o _ _ _ _ (by omega), o _ _ _ _ (by omega)]; exact h.c3
theorem Book0.set3 {w : World} {g : Nat} {T N : Int} (h : Book0 w g T N) : Book0 (w.setCell ⟨g, 3, none⟩ (.slice none 0 0)) g T N := by
  have o : ∀ (j : Nat), j ≠ 3 → (w.setCell ⟨g, 3, none⟩ (.slice none 0 0)).cell? ⟨g, j, none⟩ = w.cell? ⟨g, j, none⟩ := fun j hij => World.cell?_setCell_other _ _ _ _ (fun q => by injection q with _ q; exact hij q.symm)
  exact ⟨(o 0 (by omega)).trans h.c0, (o 1 (by omega)).trans h.c1, (o 2 (by omega)).trans h.c2, World.cell?_setCell_same _ _ _ h.c3, by simpa using h.z1, by simpa using h.z2, by simpa using h.z3, by simpa using h.lt⟩

theorem Book0.drew {w : World} {g : Nat} {T N : Int} (h : Book0 w g T N) : Book0 w.drew g T N := ⟨h.c0, h.c1, h.c2, h.c3, h.z1, h.z2, h.z3, h.lt⟩
theorem Book0.draws {w : World} {g : Nat} {T N : Int} (h : Book0 w g T N) (n : Nat) : Book0 (w.drewN n) g T N := ⟨h.c0, h.c1, h.c2, h.c3, h.z1, h.z2, h.z3, h.lt⟩
theorem Frm.draws {g : Nat} {v : Value} {w w1 : World} (h : Frm g v w w1) (n : Nat) : Frm g v w (w1.drewN n) := ⟨h.os, h.tape, h.output, h.size, h.block⟩
theorem run_clear_none {P : Program} (t ty e : TypeId) (ht : P.underlying t = some (.slice e)) (w : World) : (Builtin.clear_ #[t] ty #[.slice none 0 0]).run P w = .ok (.tuple #[]) w := by
  simp [Builtin.clear_, run_underlying ht]
set_option maxRecDepth 8000 in
set_option maxHeartbeats 2000000 in
theorem gsvforget_0 (g : Nat) (T N : Int) (w : World) (h : Book0 w g T N) : Calls Tryd.prog 14 #[.pointer (some ⟨g, 0, none⟩)] w fun e w' => e = .returned (.tuple #[]) ∧ Book0 w' g 0 0 ∧ Frm g nilV w w' := by
  have kc := fun ty W => run_clear_none (P := Tryd.prog) 24 ty 53 Tryd.underlying24 W
  have H := Lib.hid h
  obtain ⟨c0, c1, c2, c3, z1, z2, z3, lt⟩ := h
  go_enter Tryd.func14, Tryd.ntmps14
  go_wp2_with fail
  go_region_with (fail)
  all_goals go_wp2_with fail
  all_goals go_end0
  all_goals exact ⟨rfl, ((H.out.set 0 0).set3).drew, (((frm_set _ _ _ _).set _ _).set _ _).draw⟩
set_option maxRecDepth 8000 in
set_option maxHeartbeats 4000000 in
theorem gsvfits_0 (g : Nat) (T N : Int) (w : World) (h : Book0 w g T N) : Calls Tryd.prog 13 #[.pointer (some ⟨g, 0, none⟩), gsvV 1 1 0 none 0 0] w fun e w' => e = .returned (.bool true) ∧ Book0 w' g 1 1 ∧ Frm g nilV w w' := by
  have hb0 := below_new w (.cells (gsvC 1 1 0 none 0 0) 26)
  have HM : Hid (∀ o, (w.alloc (.cells (gsvC 1 1 0 none 0 0) 26)).cell? ⟨w.heap.size, o, none⟩ = (gsvC 1 1 0 none 0 0)[o]?) := fun o => World.cell?_alloc_at _ _ _ _ rfl
  have H0 := Lib.hid (h.keep hb0)
  have HB := Lib.hid hb0
  have hlt := h.lt
  clear h hb0
  go_enter Tryd.func13, Tryd.ntmps13
  go_wp2_with fail
  refine (gsvforget_0 g T N _ H0.out).mono ?_
  rintro r w1 ⟨rfl, h1, hf1⟩
  have m0 := (frm_cells hf1 (b := w.heap.size) (by simp) (by omega) 0).trans (HM.out 0)
  have m1 := (frm_cells hf1 (b := w.heap.size) (by simp) (by omega) 1).trans (HM.out 1)
  have H1 := Lib.hid h1
  have hz1 : w.heap.size < w1.heap.size := by have := hf1.size; simp at this; omega
  have HF1 := Lib.hid ((Frm.of_below (g := g) (v := nilV) HB.out).step hf1)
  obtain ⟨c0, c1, c2, c3, z1, z2, z3, lt⟩ := h1
  clear hf1 H0 HB
  have H2 := Lib.hid (H1.out.set 1 1)
  have k0 := (World.cell?_setCell_other (w1.setCell ⟨g, 1, none⟩ (.int .i64 1)) ⟨g, 2, none⟩ ⟨w.heap.size, 0, none⟩ (.int .i64 1) (fun q => by injection q with q; omega)).trans ((World.cell?_setCell_other w1 ⟨g, 1, none⟩ ⟨w.heap.size, 0, none⟩ (.int .i64 1) (fun q => by injection q with q; omega)).trans m0)
  have k1 := (World.cell?_setCell_other (w1.setCell ⟨g, 1, none⟩ (.int .i64 1)) ⟨g, 2, none⟩ ⟨w.heap.size, 1, none⟩ (.int .i64 1) (fun q => by injection q with q; omega)).trans ((World.cell?_setCell_other w1 ⟨g, 1, none⟩ ⟨w.heap.size, 1, none⟩ (.int .i64 1) (fun q => by injection q with q; omega)).trans m1)
  obtain ⟨d0, d1, d2, d3, -, -, -, -⟩ := id H2.out
  go_wp2_with fail
  go_quiet (fail)
  go_wp2_with fail
  go_ret
  exact ⟨rfl, H2.out.draws _, ((HF1.out.set _ _).set _ _).draws _⟩
end Go.Proofs.YteofmahbimkggaaDoor

/- Layer 29: knows. -/
namespace Go.Proofs.YteofmahbimkggaaDoor
set_option linter.unusedVariables false
open Go.RowKit

set_option maxRecDepth 8000 in
set_option maxHeartbeats 2000000 in
theorem CloneV_nil (w : World) : Calls Tryd.prog 15 #[.slice none 0 0] w fun e w' => e = .returned (.slice none 0 0) ∧ Below w.heap.size w w' := by
  go_enter Tryd.func15, Tryd.ntmps15
  go_wp2_with fail
  rw [Lib.run_eql_slice_nil _ _ _ _ _ _ _ _ Tryd.underlying24]
  go_wp2_with fail
  go_ret
  exact ⟨rfl, Below.refl _ _⟩
theorem addS_set {w W : World} {g : Nat} (h : W.cell? ⟨g, 3, none⟩ = some (.slice none 0 0) ∧ W.cell? ⟨w.heap.size, 3, none⟩ = some (.slice none 0 0) ∧ W.frozen? ⟨g, 3, none⟩ = false ∧ Hid (g < w.heap.size) ∧ Hid (Book0 W g 1 1) ∧ Hid (Frm g nilV w W) ∧ Hid (∀ o, W.cell? ⟨w.heap.size, o, none⟩ = (gsvC 1 1 0 none 0 0)[o]?)) :
    (W.setCell ⟨g, 3, none⟩ (.slice none 0 0)).cell? ⟨g, 3, none⟩ = some (.slice none 0 0) ∧ (W.setCell ⟨g, 3, none⟩ (.slice none 0 0)).cell? ⟨w.heap.size, 3, none⟩ = some (.slice none 0 0) ∧ (W.setCell ⟨g, 3, none⟩ (.slice none 0 0)).frozen? ⟨g, 3, none⟩ = false ∧ Hid (g < w.heap.size) ∧ Hid (Book0 (W.setCell ⟨g, 3, none⟩ (.slice none 0 0)) g 1 1) ∧ Hid (Frm g nilV w (W.setCell ⟨g, 3, none⟩ (.slice none 0 0))) ∧ Hid (∀ o, (W.setCell ⟨g, 3, none⟩ (.slice none 0 0)).cell? ⟨w.heap.size, o, none⟩ = (gsvC 1 1 0 none 0 0)[o]?) := by
  obtain ⟨h1, h2, h3, h4, h5, h6, h7⟩ := h
  have hlt := h4.out
  have k : ∀ o, (W.setCell ⟨g, 3, none⟩ (.slice none 0 0)).cell? ⟨w.heap.size, o, none⟩ = W.cell? ⟨w.heap.size, o, none⟩ := fun o => World.cell?_setCell_other _ _ _ _ (fun q => by injection q with q; omega)
  exact ⟨World.cell?_setCell_same _ _ _ h1, (k 3).trans h2, by simpa using h3, h4, Lib.hid h5.out.set3, Lib.hid (h6.out.set _ _), Lib.hid fun o => (k o).trans (h7.out o)⟩
set_option maxRecDepth 8000 in
set_option maxHeartbeats 4000000 in
theorem gsvAdd_0 (g : Nat) (T N : Int) (w : World) (h : Book0 w g T N) : Calls Tryd.prog 7 #[.pointer (some ⟨g, 0, none⟩), gsvV 1 1 0 none 0 0] w fun e w' => e = .returned (.tuple #[.slice none 0 0, .bool true]) ∧ Book0 w' g 0 0 ∧ Frm g nilV w w' := by
  have hb0 := below_new w (.cells (gsvC 1 1 0 none 0 0) 26)
  have HM : Hid (∀ o, (w.alloc (.cells (gsvC 1 1 0 none 0 0) 26)).cell? ⟨w.heap.size, o, none⟩ = (gsvC 1 1 0 none 0 0)[o]?) := fun o => World.cell?_alloc_at _ _ _ _ rfl
  have H0 := Lib.hid (h.keep hb0)
  have HB := Lib.hid hb0
  have hlt := h.lt
  clear h hb0
  obtain ⟨c0, c1, c2, c3, z1, z2, z3, lt⟩ := id H0.out
  go_enter Tryd.func7, Tryd.ntmps7
  go_wp2_with fail
  refine (gsvfits_0 g T N _ H0.out).mono ?_
  rintro r w1 ⟨rfl, h1, hf1⟩
  have m0 := (frm_cells hf1 (b := w.heap.size) (by simp) (by omega) 0).trans (HM.out 0)
  have m1 := (frm_cells hf1 (b := w.heap.size) (by simp) (by omega) 1).trans (HM.out 1)
  have m3 := (frm_cells hf1 (b := w.heap.size) (by simp) (by omega) 3).trans (HM.out 3)
  have hz1 : w.heap.size < w1.heap.size := by have := hf1.size; simp at this; omega
  have HFF := Lib.hid hf1
  have HF1 := Lib.hid ((Frm.of_below (g := g) (v := nilV) HB.out).step hf1)
  have H1 := Lib.hid h1
  clear hf1 c0 c1 c2 c3 z1 z2 z3 lt H0
  obtain ⟨c0, c1, c2, c3, z1, z2, z3, lt⟩ := h1
  have HS0 : Hid ((w1.drew).cell? ⟨g, 3, none⟩ = some (.slice none 0 0) ∧ (w1.drew).cell? ⟨w.heap.size, 3, none⟩ = some (.slice none 0 0) ∧ (w1.drew).frozen? ⟨g, 3, none⟩ = false ∧ Hid (g < w.heap.size) ∧ Hid (Book0 w1.drew g 1 1) ∧ Hid (Frm g nilV w w1.drew) ∧ Hid (∀ o, (w1.drew).cell? ⟨w.heap.size, o, none⟩ = (gsvC 1 1 0 none 0 0)[o]?)) :=
    ⟨c3, m3, z3, hlt, Lib.hid H1.out.drew, Lib.hid HF1.out.draw, Lib.hid fun o => (frm_cells HFF.out (b := w.heap.size) (by simp) (by omega) o).trans (HM.out o)⟩
  have HS1 : Hid ((w1.setCell ⟨g, 3, none⟩ (.slice none 0 0)).drew.cell? ⟨g, 3, none⟩ = some (.slice none 0 0) ∧ (w1.setCell ⟨g, 3, none⟩ (.slice none 0 0)).drew.cell? ⟨w.heap.size, 3, none⟩ = some (.slice none 0 0) ∧ (w1.setCell ⟨g, 3, none⟩ (.slice none 0 0)).drew.frozen? ⟨g, 3, none⟩ = false ∧ Hid (g < w.heap.size) ∧ Hid (Book0 (w1.setCell ⟨g, 3, none⟩ (.slice none 0 0)).drew g 1 1) ∧ Hid (Frm g nilV w (w1.setCell ⟨g, 3, none⟩ (.slice none 0 0)).drew) ∧ Hid (∀ o, (w1.setCell ⟨g, 3, none⟩ (.slice none 0 0)).drew.cell? ⟨w.heap.size, o, none⟩ = (gsvC 1 1 0 none 0 0)[o]?)) := by
    obtain ⟨a1, a2, a3, a4, a5, a6, a7⟩ := addS_set (w := w) (W := w1) ⟨c3, m3, z3, hlt, H1, HF1, Lib.hid fun o => (frm_cells HFF.out (b := w.heap.size) (by simp) (by omega) o).trans (HM.out o)⟩
    exact ⟨a1, a2, a3, a4, Lib.hid a5.out.drew, Lib.hid a6.out.draw, Lib.hid a7.out⟩
  clear HFF HM HB m0 m1
  go_wp2_with fail
  go_region_held3 (fun W => W.cell? ⟨g, 3, none⟩ = some (.slice none 0 0) ∧ W.cell? ⟨w.heap.size, 3, none⟩ = some (.slice none 0 0) ∧ W.frozen? ⟨g, 3, none⟩ = false ∧ Hid (g < w.heap.size) ∧ Hid (Book0 W g 1 1) ∧ Hid (Frm g nilV w W) ∧ Hid (∀ o, W.cell? ⟨w.heap.size, o, none⟩ = (gsvC 1 1 0 none 0 0)[o]?)) (first | exact HS0.out | exact HS1.out | assumption) (fail)
  clear HS0 m3 c0 c1 c2 c3 z1 z2 z3 lt hz1
  obtain ⟨-, -, -, -, h5, h6, h7⟩ := HS1.out
  clear HS1
  go_split_ands
  generalize hW2 : (w1.setCell ⟨g, 3, none⟩ (.slice none 0 0)).drew = W2 at *
  clear hW2
  have m0 := h7.out 0
  have m1 := h7.out 1
  obtain ⟨c0, c1, c2, c3, z1, z2, z3, lt⟩ := id h5.out
  have H3 := Lib.hid (show Book0 (W2.setCell ⟨g, 2, none⟩ (.int .i64 2)) g 1 2 from by
    obtain ⟨c0, c1, c2, c3, z1, z2, z3, lt⟩ := h5.out
    have o : ∀ (j : Nat), j ≠ 2 → (W2.setCell ⟨g, 2, none⟩ (.int .i64 2)).cell? ⟨g, j, none⟩ = W2.cell? ⟨g, j, none⟩ := fun j hij => World.cell?_setCell_other _ _ _ _ (fun q => by injection q with _ q; exact hij q.symm)
    exact ⟨(o 0 (by omega)).trans c0, (o 1 (by omega)).trans c1, World.cell?_setCell_same _ _ _ c2, (o 3 (by omega)).trans c3, by simpa using z1, by simpa using z2, by simpa using z3, by simpa using lt⟩)
  have k0 := (World.cell?_setCell_other W2 ⟨g, 2, none⟩ ⟨w.heap.size, 0, none⟩ (.int .i64 2) (fun q => by injection q with q; omega)).trans m0
  have k1 := (World.cell?_setCell_other W2 ⟨g, 2, none⟩ ⟨w.heap.size, 1, none⟩ (.int .i64 2) (fun q => by injection q with q; omega)).trans m1
  obtain ⟨d0, d1, d2, d3, y1, y2, y3, lt3⟩ := id H3.out
  have HF3 := Lib.hid (h6.out.set (g := g) 2 (.int .i64 2))
  go_wp2_with fail
  refine (CloneV_nil _).mono ?_
  rintro r w4 ⟨rfl, hb4⟩
  have H4 := Lib.hid (H3.out.keep hb4)
  have HF4 := Lib.hid (HF3.out.then_below hb4)
  clear hb4 d0 d1 d2 d3 y1 y2 y3 lt3 k0 k1 m0 m1 c0 c1 c2 c3 z1 z2 z3 lt
  go_wp2_with fail
  refine (gsvforget_0 g 1 2 _ H4.out).mono ?_
  rintro r w5 ⟨rfl, h, hf⟩
  have H5 := Lib.hid h
  have HF5 := Lib.hid (HF4.out.step hf)
  clear h hf
  go_wp2_with fail
  go_ret2
  exact ⟨rfl, H5.out, HF5.out⟩
theorem gsvNew_any (w : World) : Calls Tryd.prog 6 #[] w fun e w' => e = .returned (.pointer (some ⟨w.heap.size, 0, none⟩)) ∧ Book0 w' w.heap.size 0 0 ∧ Below w.heap.size w w' := by
  go_enter Tryd.func6, Tryd.ntmps6
  go_wp2
  go_ret
  refine ⟨rfl, ⟨by simp [World.cell?_alloc_at], by simp [World.cell?_alloc_at], by simp [World.cell?_alloc_at], by simp [World.cell?_alloc_at], ?_, ?_, ?_, by simp⟩, below_new _ _⟩
  all_goals
    rw [frozen?_alloc_cells]
    exact frozen_past _ _ _ (Nat.le_refl _)
theorem num29_any (n : Int) (w : World) : Calls Tryd.prog 12 #[.int .i64 n] w fun e w' => e = .returned (.int .i64 n) ∧ w = w' := by
  go_enter Tryd.func12, Tryd.ntmps12
  go_wp2
  go_ret
  exact ⟨rfl, rfl⟩
theorem knows29_put : putGsv ⟨2, 1, 5, []⟩ = ([⟨#[50]⟩, ⟨#[49]⟩, ⟨#[53]⟩], 0) := by decide +kernel
theorem knows29_putc (w : World) : Calls Tryd.prog 11 #[gsvV 2 1 5 none 0 0] w fun e w' => ∃ b off c, e = .returned (.tuple #[.slice (some ⟨b, off, none⟩) 3 c, .int .i64 0]) ∧ w'.cell? ⟨b, off + 2, none⟩ = some (.string ⟨#[53]⟩) ∧ b < w'.heap.size ∧ Below w.heap.size w w' := by
  refine (gsvPut_any 2 1 5 none 0 [] w (fun k hk => absurd hk (by simp)) (by simp)).mono ?_
  rw [knows29_put]
  rintro e w' ⟨v, rfl, A, c, rfl, -, h3, -, h5⟩
  obtain ⟨b, off, rfl, hb, h1⟩ := h3 2 (by decide)
  exact ⟨b, off, c, rfl, h1, hb, h5⟩
set_option maxRecDepth 8000 in
set_option maxHeartbeats 2000000 in
theorem knows29_any (w : World) : Calls Tryd.prog 5 #[] w fun e w' => e = .returned (.bool true) ∧ Below w.heap.size w w' := by
  have HP := fun W => Lib.hid (knows29_putc W)
  go_enter Tryd.func5, Tryd.ntmps5
  go_wp2_with fail
  refine (gsvNew_any _).mono ?_
  rintro r w1 ⟨rfl, hk, hb1⟩
  have HK := Lib.hid hk
  have HB1 := Lib.hid hb1
  clear hk hb1
  go_wp2_with fail
  refine (gsvAdd_0 _ _ _ _ HK.out).mono ?_
  rintro r w2 ⟨rfl, -, hf⟩
  have HB2 := Lib.hid (Below.trans HB1.out (hf.below (Nat.le_refl _) (fun k hk => by simp [Value.ownBlock] at hk) HB1.out.size))
  clear hf HK HB1
  go_wp2_with fail
  refine ((HP _).out).mono ?_
  rintro e w3 ⟨b, off, c, rfl, h1, hb, hb3⟩
  have HB3 := Lib.hid (bthen HB2.out hb3)
  clear hb3 HB2
  go_wp2_with fail
  refine (num29_any _ _).mono ?_
  rintro e w' ⟨rfl, rfl⟩
  go_wp2_with fail
  go_ret
  exact ⟨rfl, HB3.out⟩
end Go.Proofs.YteofmahbimkggaaDoor
