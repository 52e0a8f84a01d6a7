/- Layer 25: the reference's Take. Printed by genggaq.py. -/
import Derived.Test.YtfgopmfaeooadaaGreatDoorMzi
import Derived.Test.YtfgopmfaeooadaaGreatDoorMzmn
import Derived.Test.YtfgopmfaeooadaaGreatDoorMgf
import Derived.Deep.RegionHeld3
namespace Go.Proofs.YtfgopmfaeooadaaGreatDoor
set_option linter.unusedVariables false
open Go.RowKit
set_option linter.unusedSimpArgs false

theorem tkr_put {g M : Nat} {s : Rd} {C : Array Value} {W w : World} (h : TkI (RowRI g s) g M C W w) (o : Nat) (u : Value) (ho : o < C.size) : TkI (RowRI g s) g M (C.setIfInBounds o u) W (w.setCell ⟨M, o, none⟩ u) := h.put ho (h.x.far h.gm)
theorem tkr_eq {g M : Nat} {s : Rd} {C : Array Value} {W w : World} (h : TkI (RowRI g s) g M C W w) (C' : Array Value) (e : C = C') : Hid (TkI (RowRI g s) g M C' W w) := by subst e; exact h
theorem row_text_small {g : Nat} {s t : Rd} {a : ByteArray} {w : World} (ha : Hid (rdText s = (a, t))) (hp : RowRI g s w) : a.size ≤ 1000000 := by
  have := ha.out
  unfold rdText at this
  injection this with e _
  rw [← e]
  exact headD_small hp.choose_spec.2.2
set_option maxRecDepth 8000 in
set_option maxHeartbeats 4000000 in
theorem r25TakeClock_any {g : Nat} {s t : Rd} {b : Bool} {h m c e : Int} {w : World} (ht : Hid (rdClk s = ((b, h, m, c, e), t))) (hp : RowRI g s w) : Calls Tryz.prog 39 #[.pointer (some ⟨g, 0, none⟩)] w (RowRStep g (clkV b h m c e) t w) := by
  obtain ⟨a, s1, ha⟩ : ∃ a s1, Hid (rdText s = (a, s1)) := ⟨_, _, rfl⟩
  have hsm := row_text_small ha hp
  obtain ⟨E, ht1, ht2⟩ : ∃ E, Hid (takeClk a.data.toList = ((b, h, m, c, e), E)) ∧ Hid (rdFail E s1 = t) := by
    have q := ht.out
    unfold rdClk at q
    rw [ha.out] at q
    injection q with q1 q2
    exact ⟨_, Prod.ext q1 rfl, q2⟩
  have hgl := hp.lt
  have hb1 := below_new w (clkO false 0 0 0 0)
  have HX0 := Lib.hid (hp.keep hb1)
  have HF0 : Hid (Frm g nilV w (w.alloc (clkO false 0 0 0 0))) := Frm.of_below hb1
  have HR0 : Hid (∀ o, (w.alloc (clkO false 0 0 0 0)).cell? ⟨w.heap.size, o, none⟩ = (#[Value.bool false, .int .i64 0, .int .i64 0, .int .i64 0, .int .i64 0] : Array Value)[o]?) := fun o => World.cell?_alloc_at _ _ _ _ rfl
  have HRF : Hid (∀ o, (w.alloc (clkO false 0 0 0 0)).frozen? ⟨w.heap.size, o, none⟩ = false) := fun o => by rw [frozen?_alloc_cells]; exact frozen_past _ _ _ (by omega)
  have HZ : Hid (w.heap.size < (w.alloc (clkO false 0 0 0 0)).heap.size ∧ g < w.heap.size) := ⟨by simp, hgl⟩
  clear hb1 hp hgl ht
  go_enter Tryz.func39, Tryz.ntmps39
  go_wp2_with fail
  generalize hW0 : w.alloc (clkO false 0 0 0 0) = W0 at *
  refine (rowTText ha HX0.out).mono ?_
  rintro r w1 ⟨rfl, hx1, hf1⟩
  have HX1 := Lib.hid hx1
  have HF1 := Lib.hid hf1
  clear hx1 hf1 hW0 HX0
  go_wp2_with fail
  refine (r24Take_any a w1 hsm).mono ?_
  rw [ht1.out]
  rintro r w2 ⟨rfl, hb2⟩
  dsimp only
  have hbc := below_new w2 (clkO b h m c e)
  have HX3 : Hid (RowRI g s1 (w2.alloc (clkO b h m c e))) := (HX1.out.keep hb2).keep hbc
  have HF3 : Hid (Frm g nilV W0 (w2.alloc (clkO b h m c e))) := HF1.out.step (Frm.of_below (bthen hb2 hbc))
  have HC3 : Hid (∀ o, (w2.alloc (clkO b h m c e)).cell? ⟨w2.heap.size, o, none⟩ = (#[Value.bool b, .int .i64 h, .int .i64 m, .int .i64 c, .int .i64 e] : Array Value)[o]?) := fun o => World.cell?_alloc_at _ _ _ _ rfl
  have HZ3 : Hid (w2.heap.size < (w2.alloc (clkO b h m c e)).heap.size ∧ W0.heap.size ≤ w2.heap.size) := ⟨by simp, by have := HF1.out.size; have := hb2.size; omega⟩
  clear hbc hb2 HX1 HF1
  go_wp2_with fail
  generalize hW3 : w2.alloc (clkO b h m c e) = W3 at *
  clear hW3
  refine (rowFirst ht2 HX3.out).mono ?_
  rintro r w4 ⟨rfl, hx4, hf4⟩
  have HX4 := Lib.hid hx4
  have HF4 := Lib.hid (HF3.out.step hf4)
  have hc4 : ∀ o, w4.cell? ⟨w2.heap.size, o, none⟩ = (#[Value.bool b, .int .i64 h, .int .i64 m, .int .i64 c, .int .i64 e] : Array Value)[o]? := fun o => (frm_cells hf4 HZ3.out.1 (by have := HZ.out; have := HZ3.out; omega) o).trans (HC3.out o)
  have hr4 : ∀ o, w4.cell? ⟨w.heap.size, o, none⟩ = (#[Value.bool false, .int .i64 0, .int .i64 0, .int .i64 0, .int .i64 0] : Array Value)[o]? := fun o => (frm_cells HF4.out HZ.out.1 (by have := HZ.out; omega) o).trans (HR0.out o)
  have fz : ∀ o, w4.frozen? ⟨w.heap.size, o, none⟩ = false := fun o => (frm_frozen HF4.out HZ.out.1 (by have := HZ.out; omega) o).trans (HRF.out o)
  have HF5 := Lib.hid (HF0.out.step HF4.out)

  have c0 := hc4 0
  have c1 := hc4 1
  have c2 := hc4 2
  have c3 := hc4 3
  have c4 := hc4 4
  have r0 := hr4 0
  have r1 := hr4 1
  have r2 := hr4 2
  have r3 := hr4 3
  have r4 := hr4 4
  have HOLD : Hid (∀ o, o < 5 → ∃ v, w4.cell? ⟨w.heap.size, o, none⟩ = some v) := fun o ho => by rw [hr4 o]; rcases (by omega : o = 0 ∨ o = 1 ∨ o = 2 ∨ o = 3 ∨ o = 4) with rfl | rfl | rfl | rfl | rfl <;> exact ⟨_, rfl⟩
  clear hx4 hf4 hc4 hr4 HC3 HR0 HRF HF3 HX3 HF0 HF4
  go_wp2_with fail
  have hd := set5 (W := w4) (g := w.heap.size) (a := .bool b) (b := .int .i64 h) (c := .int .i64 m) (d := .int .i64 c) (e := .int .i64 e) HOLD.out
  have d0 := hd 0 (by omega)
  have d1 := hd 1 (by omega)
  have d2 := hd 2 (by omega)
  have d3 := hd 3 (by omega)
  have d4 := hd 4 (by omega)
  simp at d0 d1 d2 d3 d4
  have hG : g < w.heap.size := by have := HZ.out.2; omega
  refine bodyPost_ret (v := clkV b h m c e) (by simp [results, Tryz.results39, go_sem, d0, d1, d2, d3, d4]) rfl ⟨rfl, ?_, ?_⟩
  · exact ((((HX4.out.far hG).far hG).far hG).far hG).far hG
  · exact ((((HF5.out.put (Nat.le_refl _)).put (Nat.le_refl _)).put (Nat.le_refl _)).put (Nat.le_refl _)).put (Nat.le_refl _)
end Go.Proofs.YtfgopmfaeooadaaGreatDoor
