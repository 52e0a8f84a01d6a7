/- Layer 23: pens and eyes that there are not, or that no call made. -/
import Derived.Test.YteofmahbimkggaaDoorMd
import Derived.Deep.RegionHeld3
import Derived.Deep.RegionWith
import Derived.Deep.DeepCutAuto
import Derived.Test.YteofmahbimkggaaDoorMe
import Derived.Deep.QuietTactic
namespace Go.Proofs.YteofmahbimkggaaDoor
set_option linter.unusedVariables false
open Go.RowKit

def DeadP (v : Value) (w : World) : Prop :=
  v = .pointer none ∨ ∃ g, v = .pointer (some ⟨g, 0, none⟩) ∧ g < w.heap.size ∧ w.cell? ⟨g, 0, none⟩ = some (.bool false) ∧ w.cell? ⟨g, 2, none⟩ = some (.slice none 0 0)
theorem DeadP.keep {v : Value} {w w' : World} (h : DeadP v w) (hb : Below w.heap.size w w') : DeadP v w' := by
  rcases h with h | ⟨g, h1, h2, h3, h4⟩
  · exact .inl h
  · exact .inr ⟨g, h1, Nat.lt_of_lt_of_le h2 hb.size, ((bcell hb).1 g 0 h2).trans h3, ((bcell hb).1 g 2 h2).trans h4⟩
theorem DeadP.draws {v : Value} {w : World} (h : DeadP v w) (n : Nat) : DeadP v (w.drewN n) := h.keep (below_draws n)

theorem Penput_dead (p : Value) (e : Int) (x : Value) (w : World) (h : DeadP p w) : Calls Tryd.prog 26 #[p, .int .i64 e, x] w fun e w' => e = .returned (.tuple #[]) ∧ w = w' := by
  rcases h with rfl | ⟨g, rfl, h2, h3, h4⟩
  all_goals
    go_enter Tryd.func26, Tryd.ntmps26
    go_wp2
    go_end0
    exact ⟨rfl, rfl⟩
theorem PenDone_dead (p : Value) (w : World) (h : DeadP p w) : Calls Tryd.prog 25 #[p] w fun e w' => e = .returned (.tuple #[.slice none 0 0, .int .i64 1]) ∧ w = w' := by
  rcases h with rfl | ⟨g, rfl, h2, h3, h4⟩
  all_goals
    go_enter Tryd.func25, Tryd.ntmps25
    go_wp2
    go_ret2
    exact ⟨rfl, rfl⟩

set_option maxHeartbeats 1000000 in
theorem PenText_dead (p : Value) (s : ByteArray) (e : Int) (w : World) (h : DeadP p w) : Calls Tryd.prog 17 #[p, .string s, .int .i64 e] w fun e w' => e = .returned (.tuple #[]) ∧ Below w.heap.size w w' := by
  have HD := fun W' hb => Lib.hid (fun x => Penput_dead p e x W' (h.keep hb))
  clear h
  go_enter Tryd.func17, Tryd.ntmps17
  go_wp2_with fail
  refine (((HD _ (below_new w _)).out _)).mono ?_
  rintro e w' ⟨rfl, rfl⟩
  go_wp2_with fail
  go_end0
  exact ⟨rfl, below_new w _⟩
set_option maxHeartbeats 1000000 in
theorem PenNum_dead (p : Value) (b : Bool) (n W M F L H : Int) (w : World) (h : DeadP p w) : Calls Tryd.prog 19 #[p, numV b n, colV W M F L H] w fun e w' => e = .returned (.tuple #[]) ∧ Below w.heap.size w w' := by
  have HD := fun W' hb => Lib.hid (fun e x => Penput_dead p e x W' (h.keep hb))
  have HP := fun W' => Lib.hid (Put23_any b n W M F L H W')
  clear h
  go_enter Tryd.func19, Tryd.ntmps19
  go_wp2_with fail
  refine ((HP _).out).mono ?_
  rintro e w1 ⟨rfl, hb1⟩
  have b1 := bthen (bthen (below_new w _) (below_new _ _)) hb1
  go_wp2_with fail
  refine (((HD _ (bthen b1 (below_new w1 _))).out _ _)).mono ?_
  rintro e w' ⟨rfl, rfl⟩
  go_wp2_with fail
  go_end0
  exact ⟨rfl, bthen b1 (below_new w1 _)⟩
theorem takeN_none (W M F L H : Int) : ∃ e, takeN [] W M F L H = (false, 0, e) := by
  unfold takeN
  split
  · exact ⟨_, rfl⟩
  · exact ⟨_, if_pos rfl⟩
end Go.Proofs.YteofmahbimkggaaDoor

/- Layer 23: Num of an eye that there is not, or that no call made. -/
namespace Go.Proofs.YteofmahbimkggaaDoor
set_option linter.unusedVariables false
open Go.RowKit

theorem drew_size (w : World) : w.drew.heap.size = w.heap.size := rfl

/-- What the eye's Num has behind its statement that draws its order. -/
def NumAt (w : World) (b : Bool) (n E : Int) (s5 s6 : Value) (wx : World) : Prop :=
  ∃ G, s5 = .pointer (some ⟨G, 0, none⟩) ∧ s6 = .int .i64 E ∧ wx.cell? ⟨G, 0, none⟩ = some (.bool b) ∧ wx.cell? ⟨G, 1, none⟩ = some (.int .i64 n) ∧ wx.cell? ⟨w.heap.size + 1, 0, none⟩ = some (.bool false) ∧ wx.cell? ⟨w.heap.size + 1, 1, none⟩ = some (.int .i64 0) ∧ Hid (Below w.heap.size w wx) ∧ G < wx.heap.size ∧ w.heap.size + 1 < G ∧ ∀ o, wx.frozen? ⟨w.heap.size + 1, o, none⟩ = false
theorem numAt_late {w W0 w1 : World} {b : Bool} {n E : Int} (hb : Below W0.heap.size W0 w1) (h0 : W0.cell? ⟨w.heap.size + 1, 0, none⟩ = some (.bool false)) (h1 : W0.cell? ⟨w.heap.size + 1, 1, none⟩ = some (.int .i64 0)) (hz : w.heap.size + 1 < W0.heap.size) (hfz : ∀ o, W0.frozen? ⟨w.heap.size + 1, o, none⟩ = false) (hb0 : Below w.heap.size w W0) :
    NumAt w b n E (.pointer (some ⟨w1.heap.size, 0, none⟩)) (.int .i64 E) (w1.alloc (.cells #[.bool b, .int .i64 n] 51)) := by
  have hz1 := hb.size
  exact ⟨w1.heap.size, rfl, rfl, by simp [World.cell?_alloc_at], by simp [World.cell?_alloc_at], (World.cell?_alloc_past _ _ _ (by omega)).trans (((bcell hb).1 _ 0 hz).trans h0), (World.cell?_alloc_past _ _ _ (by omega)).trans (((bcell hb).1 _ 1 hz).trans h1), Lib.hid (bthen (bthen hb0 hb) (below_new _ _)), by simp, by omega, fun o => by rw [frozen?_alloc_cells, (bcell hb).2 _ o hz, hfz]⟩
theorem numAt_early {w W0 w1 : World} {b : Bool} {n E : Int} {G : Nat} (hb : Below W0.heap.size W0 w1) (g0 : W0.cell? ⟨G, 0, none⟩ = some (.bool false)) (g1 : W0.cell? ⟨G, 1, none⟩ = some (.int .i64 0)) (hG : w.heap.size + 1 < G) (hG2 : G < W0.heap.size) (hfz : ∀ o, W0.frozen? ⟨w.heap.size + 1, o, none⟩ = false) (h0 : W0.cell? ⟨w.heap.size + 1, 0, none⟩ = some (.bool false)) (h1 : W0.cell? ⟨w.heap.size + 1, 1, none⟩ = some (.int .i64 0)) (hb0 : Below w.heap.size w W0) :
    NumAt w b n E (.pointer (some ⟨G, 0, none⟩)) (.int .i64 E) ((w1.setCell ⟨G, 0, none⟩ (.bool b)).setCell ⟨G, 1, none⟩ (.int .i64 n)) := by
  have hz1 := hb.size
  obtain ⟨p0, p1⟩ := two_cells w1 G (.bool b) (.int .i64 n) _ _ (((bcell hb).1 G 0 hG2).trans g0) (((bcell hb).1 G 1 hG2).trans g1)
  have hne : ∀ o j, (⟨G, j, none⟩ : Addr) ≠ ⟨w.heap.size + 1, o, none⟩ := fun o j e => by injection e with e; omega
  have k : ∀ o, ((w1.setCell ⟨G, 0, none⟩ (.bool b)).setCell ⟨G, 1, none⟩ (.int .i64 n)).cell? ⟨w.heap.size + 1, o, none⟩ = w1.cell? ⟨w.heap.size + 1, o, none⟩ := fun o => by
    rw [World.cell?_setCell_other _ _ _ _ (hne o 1), World.cell?_setCell_other _ _ _ _ (hne o 0)]
  refine ⟨G, rfl, rfl, p0, p1, (k 0).trans (((bcell hb).1 _ 0 (by omega)).trans h0), (k 1).trans (((bcell hb).1 _ 1 (by omega)).trans h1), Lib.hid ?_, ?_, hG, fun o => ?_⟩
  · exact Below.setCell (Below.setCell (bthen hb0 hb) (p := ⟨G, 0, none⟩) (by show w.heap.size ≤ G; omega) _) (p := ⟨G, 1, none⟩) (by show w.heap.size ≤ G; omega) _
  · simp; omega
  · simp only [World.frozen?_setCell]
    rw [(bcell hb).2 _ o (by omega), hfz]

end Go.Proofs.YteofmahbimkggaaDoor

/- Layer 23: eyes, and the reference's rows that are read: a text, an error. -/
namespace Go.Proofs.YteofmahbimkggaaDoor
set_option linter.unusedVariables false
open Go.RowKit
variable {Q : Nat → Prop}

abbrev nilV : Value := .slice none 0 0
/-- The error behind a text. -/
def textE (e : Int) (R : List ByteArray) : Int := if R = [] then firstE e 3 else e

/-- A slice of texts in blocks of a kind. -/
def StrsQ (Q : Nat → Prop) (w : World) (A : Option Addr) (fs : List ByteArray) : Prop :=
  ∀ k (hk : k < fs.length), ∃ b off, A = some ⟨b, off, none⟩ ∧ Q b ∧ w.cell? ⟨b, off + k, none⟩ = some (.string (fs[k]'hk))
/-- An eye that a call made. -/
def EyeR (Q : Nat → Prop) (w : World) (g : Nat) (e : Int) (R : List ByteArray) : Prop :=
  ∃ A c, w.cell? ⟨g, 0, none⟩ = some (.bool true) ∧ w.cell? ⟨g, 1, none⟩ = some (.int .i64 e) ∧ w.cell? ⟨g, 2, none⟩ = some (.slice A R.length c) ∧ (∀ o, w.frozen? ⟨g, o, none⟩ = false) ∧ g < w.heap.size ∧ StrsQ Q w A R ∧ (∀ b, Q b → b < w.heap.size) ∧ (∀ b, Q b → b ≠ g) ∧ R.length ≤ 1000000 ∧ R.length ≤ c
/-- A row of the reference that is read. -/
def RowR (Q : Nat → Prop) (w : World) (g : Nat) (e : Int) (R : List ByteArray) : Prop :=
  ∃ A c fs at_, w.cell? ⟨g, 0, none⟩ = some (.slice A fs.length c) ∧ w.cell? ⟨g, 1, none⟩ = some (.int .i64 ((at_ : Nat) : Int)) ∧ w.cell? ⟨g, 2, none⟩ = some (.int .i64 e) ∧ (∀ o, w.frozen? ⟨g, o, none⟩ = false) ∧ g < w.heap.size ∧ StrsQ Q w A fs ∧ (∀ b, Q b → b < w.heap.size) ∧ (∀ b, Q b → b ≠ g) ∧ fs.length ≤ 1000000 ∧ at_ ≤ fs.length ∧ R = fs.drop at_

theorem strs_keep {w w' : World} {A : Option Addr} {R : List ByteArray} {g : Nat} (h : StrsQ Q w A R) (hB : ∀ b, Q b → b < w.heap.size) (hA : ∀ b, Q b → b ≠ g) (hf : Frm g nilV w w') : StrsQ Q w' A R := by
  intro k hk
  obtain ⟨b, off, h1, h2, h3⟩ := h k hk
  exact ⟨b, off, h1, h2, (hf.cell (hB b h2) (hA b h2) (by simp [Value.ownBlock])).trans h3⟩
theorem EyeR.keep {w w' : World} {g : Nat} {e : Int} {R : List ByteArray} (h : EyeR Q w g e R) (hb : Below w.heap.size w w') : EyeR Q w' g e R := by
  obtain ⟨A, c, h0, h1, h2, h3, h4, h5, hB, h6, h7, h8⟩ := h
  obtain ⟨cc, ff⟩ := bcell hb
  exact ⟨A, c, (cc g 0 h4).trans h0, (cc g 1 h4).trans h1, (cc g 2 h4).trans h2, fun o => (ff g o h4).trans (h3 o), Nat.lt_of_lt_of_le h4 hb.size, strs_keep h5 hB h6 (Frm.of_below hb), (fun b q => Nat.lt_of_lt_of_le (hB b q) hb.size), h6, h7, h8⟩
theorem RowR.keep {w w' : World} {g : Nat} {e : Int} {R : List ByteArray} (h : RowR Q w g e R) (hb : Below w.heap.size w w') : RowR Q w' g e R := by
  obtain ⟨A, c, fs, at_, h0, h1, h2, h3, h4, h5, hB, h6, h7, h8, h9⟩ := h
  obtain ⟨cc, ff⟩ := bcell hb
  exact ⟨A, c, fs, at_, (cc g 0 h4).trans h0, (cc g 1 h4).trans h1, (cc g 2 h4).trans h2, fun o => (ff g o h4).trans (h3 o), Nat.lt_of_lt_of_le h4 hb.size, strs_keep h5 hB h6 (Frm.of_below hb), (fun b q => Nat.lt_of_lt_of_le (hB b q) hb.size), h6, h7, h8, h9⟩
theorem frm_set (w : World) (g o : Nat) (u : Value) : Frm g nilV w (w.setCell ⟨g, o, none⟩ u) := (Frm.of_below (Below.refl _ _)).set _ _
theorem EyeR.err {w : World} {g : Nat} {e E : Int} {R : List ByteArray} (h : EyeR Q w g e R) : EyeR Q (w.setCell ⟨g, 1, none⟩ (.int .i64 E)) g E R := by
  obtain ⟨A, c, h0, h1, h2, h3, h4, h5, hB, h6, h7, h8⟩ := h
  refine ⟨A, c, ?_, World.cell?_setCell_same _ _ _ h1, ?_, fun o => by simpa using h3 o, by simpa using h4, strs_keep h5 hB h6 (frm_set _ _ _ _), by simpa using hB, h6, h7, h8⟩
  · rw [World.cell?_setCell_other _ _ _ _ (by simp)]; exact h0
  · rw [World.cell?_setCell_other _ _ _ _ (by simp)]; exact h2
theorem RowR.err {w : World} {g : Nat} {e E : Int} {R : List ByteArray} (h : RowR Q w g e R) : RowR Q (w.setCell ⟨g, 2, none⟩ (.int .i64 E)) g E R := by
  obtain ⟨A, c, fs, at_, h0, h1, h2, h3, h4, h5, hB, h6, h7, h8, h9⟩ := h
  refine ⟨A, c, fs, at_, ?_, ?_, World.cell?_setCell_same _ _ _ h2, fun o => by simpa using h3 o, by simpa using h4, strs_keep h5 hB h6 (frm_set _ _ _ _), by simpa using hB, h6, h7, h8, h9⟩
  · rw [World.cell?_setCell_other _ _ _ _ (by simp)]; exact h0
  · rw [World.cell?_setCell_other _ _ _ _ (by simp)]; exact h1

/-- What a step of an eye leaves. -/
def EyePost (Q : Nat → Prop) (g : Nat) (x : Value) (e : Int) (R : List ByteArray) (w : World) (r : Ending) (w' : World) : Prop := r = .returned x ∧ EyeR Q w' g e R ∧ Frm g nilV w w'
def RowRPost (Q : Nat → Prop) (g : Nat) (x : Value) (e : Int) (R : List ByteArray) (w : World) (r : Ending) (w' : World) : Prop := r = .returned x ∧ RowR Q w' g e R ∧ Frm g nilV w w'

theorem EyeR.noted {w : World} {g : Nat} {e E : Int} {R : List ByteArray} (h : EyeR Q w g e R) : EyeR Q (if e = 0 then w.setCell ⟨g, 1, none⟩ (.int .i64 E) else w) g (firstE e E) R := by
  unfold firstE
  by_cases he : e = 0
  · rw [if_pos he, if_pos he]; exact h.err
  · rw [if_neg he, if_neg he]; exact h
theorem RowR.noted {w : World} {g : Nat} {e E : Int} {R : List ByteArray} (h : RowR Q w g e R) : RowR Q (if e = 0 then w.setCell ⟨g, 2, none⟩ (.int .i64 E) else w) g (firstE e E) R := by
  unfold firstE
  by_cases he : e = 0
  · rw [if_pos he, if_pos he]; exact h.err
  · rw [if_neg he, if_neg he]; exact h
theorem frm_note (w : World) (g o : Nat) (e E : Int) : Frm g nilV w (if e = 0 then w.setCell ⟨g, o, none⟩ (.int .i64 E) else w) := by
  split
  · exact frm_set _ _ _ _
  · exact Frm.of_below (Below.refl _ _)

end Go.Proofs.YteofmahbimkggaaDoor

/- Layer 23: the next text, of an eye, of a row. -/
namespace Go.Proofs.YteofmahbimkggaaDoor
set_option linter.unusedVariables false
open Go.RowKit
variable {Q : Nat → Prop}

end Go.Proofs.YteofmahbimkggaaDoor
